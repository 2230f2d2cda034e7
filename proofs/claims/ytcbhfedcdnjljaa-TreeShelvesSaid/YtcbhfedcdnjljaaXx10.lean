import Derived.Test.YtcbhfedcdnjljaaXx9
set_option maxHeartbeats 8000000
set_option maxRecDepth 100000
set_option linter.unusedVariables false
set_option linter.unusedSimpArgs false
namespace Go.Proofs.Ytcbhfedcdnjljaa.X
open Go.RowKit Go.Proofs.YtcbhfedcdnjljaaW.PrintWords Go.Proofs.YtcbhfedcdnjljaaW.PrintLast Go.Proofs.YtcbhfedcdnjljaaW.PrintMore
attribute [local go_sem] max2_int min2_int max_two min_two max_three min_three max_four min_four gtr_str
def kQ (w0:World):Kd S84:=Kd.iso (Kd.pair (Kd.fixed (Kd.slice 26 k26) w0) (Kd.int .i64)) (fun x:S84=>(x.f0,x.f1))
theorem kQ_open {w0 w:World} {base:Nat} {ok:Nat→Prop} {x:S84} {cs:List Value} (h:(kQ w0).M w base ok x cs):∃ A c,cs=[.slice A x.f0.length c,.int .i64 x.f1]∧x.f0.length≤c∧k26.C w0 A x.f0.length x.f0:=by
 obtain ⟨c0,c1,rfl,⟨A,c,rfl,hl,hC⟩,rfl⟩:=h;exact ⟨A,c,rfl,hl,hC⟩
theorem kQ_mk (w0 w:World) (base:Nat) (ok:Nat→Prop) (x:S84) {A:Option Addr} {c:Nat} (hl:x.f0.length≤c) (hC:k26.C w0 A x.f0.length x.f0):(kQ w0).M w base ok x [.slice A x.f0.length c,.int .i64 x.f1]:=
 ⟨[.slice A x.f0.length c],[.int .i64 x.f1],rfl,⟨A,c,rfl,hl,hC⟩,rfl⟩
theorem kQ_C {w0 w:World} {A:Option Addr} {n:Nat} {xs:List S84} (hb:Below w0.heap.size w0 w) (h:(kQ w0).C w A n xs):k84.C w A n xs:=by
 refine ReadsRow.imp_ h (Below.refl w.heap.size w) ?_
 rintro x cs ⟨c0,c1,rfl,⟨A,c,rfl,hl,hC⟩,hi⟩
 exact ⟨_,_,rfl,⟨A,c,rfl,hl,Kd.C_below hC hb⟩,hi⟩
theorem um_load (w:World) (gq:Nat) (v:Value) (hc:w.cell? ⟨gq,0,none⟩=some v):(loadVar 81 ⟨gq,0,none⟩).run Try.prog w = .ok v w:=by
 have h1:∀ w,(isAgg 81).run Try.prog w = .ok false w:=fun _=>by kernel_rfl
 simp [loadVar,h1,hc]
theorem hm58 (w : World) (gq : Nat) (v : Value) (hc : w.cell? ⟨gq, 0, none⟩ = some v) : (method 269 79 (.pointer (some ⟨gq, 0, none⟩)) "Less").run Try.prog w = .ok (114, v) w := by
 have h : (method 269 79 (.pointer (some ⟨gq, 0, none⟩)) "Less").run Try.prog w = (loadVar 81 ⟨gq, 0, none⟩ >>= fun v => (pure (114, v) : Sem (FuncId × Value))).run Try.prog w := by kernel_rfl
 rw [h]
 simp only [Sem.run_bind,um_load w gq v hc,Result.andThen_ok,Sem.run_pure]
theorem hm61 (w : World) (gq : Nat) (v : Value) (hc : w.cell? ⟨gq, 0, none⟩ = some v) : (method 269 79 (.pointer (some ⟨gq, 0, none⟩)) "Swap").run Try.prog w = .ok (117, v) w := by
 have h : (method 269 79 (.pointer (some ⟨gq, 0, none⟩)) "Swap").run Try.prog w = (loadVar 81 ⟨gq, 0, none⟩ >>= fun v => (pure (117, v) : Sem (FuncId × Value))).run Try.prog w := by kernel_rfl
 rw [h]
 simp only [Sem.run_bind,um_load w gq v hc,Result.andThen_ok,Sem.run_pure]
theorem hm25 (w : World) (gq : Nat) (v : Value) (hc : w.cell? ⟨gq, 0, none⟩ = some v) : (method 269 79 (.pointer (some ⟨gq, 0, none⟩)) "Len").run Try.prog w = .ok (45, v) w := by
 have h : (method 269 79 (.pointer (some ⟨gq, 0, none⟩)) "Len").run Try.prog w = (loadVar 81 ⟨gq, 0, none⟩ >>= fun v => (pure (45, v) : Sem (FuncId × Value))).run Try.prog w := by kernel_rfl
 rw [h]
 simp only [Sem.run_bind,um_load w gq v hc,Result.andThen_ok,Sem.run_pure]
theorem hm60 (w : World) (gq : Nat) : (method 269 79 (.pointer (some ⟨gq, 0, none⟩)) "Push").run Try.prog w = .ok (116, .pointer (some ⟨gq, 0, none⟩)) w := by kernel_rfl
theorem hm59 (w : World) (gq : Nat) : (method 269 79 (.pointer (some ⟨gq, 0, none⟩)) "Pop").run Try.prog w = .ok (115, .pointer (some ⟨gq, 0, none⟩)) w := by kernel_rfl
def swapQ (xs:List S84) (i j:Nat):List S84:=(xs.set i (xs.getD j z84)).set j (xs.getD i z84)
theorem put_elem {w0 W:World} {base g n cap:Nat} {ok:Nat→Prop} {xs:List S84} (h:(kQ w0).R 84 W base ok (.slice (some ⟨g,0,none⟩) n cap) xs) (i:Nat) (hi:i<xs.length) {x':S84} {A:Option Addr} {c:Nat} (hl:x'.f0.length≤c) (hC:k26.C w0 A x'.f0.length x'.f0) :
  (kQ w0).R 84 (W.setCells g (i*2) [.slice A x'.f0.length c,.int .i64 x'.f1]) base ok (.slice (some ⟨g,0,none⟩) n cap) (xs.set i x')∧W.grownBy (W.setCells g (i*2) [.slice A x'.f0.length c,.int .i64 x'.f1]) (some g):=by
 have hn:=(Kd.R_reads' h).1;obtain ⟨cs,hcl,hM,hc,hf⟩:=Kd.R_elem h z84 (i:Int) (by omega) (by omega);have hsz:(kQ w0).sz=2:=rfl;have h2:cs.drop 2=[]:=List.drop_eq_nil_of_le (by omega)
 have:=Kd.R_seg (j:=0) (seg:=[.slice A x'.f0.length c,.int .i64 x'.f1]) h (i:Int) (by omega) (by omega) hcl hc (by rw [hsz];simp) (x':=x') (okp:=fun k=>ok k∧k≠g) (by simp only [List.take_zero,List.nil_append,List.length_cons,List.length_nil,Nat.zero_add,h2,List.append_nil];exact kQ_mk w0 _ base _ _ hl hC) (fun _ h=>h)
 rw [Int.toNat_natCast] at this;exact this
theorem grown_two {w w1 w2:World} {g:Nat} (h1:w.drew.grownBy w1 (some g)) (h2:w1.grownBy w2 (some g)):w.grownBy w2 (some g):=
 ⟨h2.os.trans h1.os,h2.tape.trans h1.tape,h2.output.trans h1.output,Nat.le_trans h1.size h2.size,fun k hk hne=>(h2.block k (Nat.lt_of_lt_of_le hk h1.size) hne).trans (h1.block k hk hne)⟩
theorem swapQ_len (xs:List S84) (i j:Nat):(swapQ xs i j).length=xs.length:=by simp [swapQ]
theorem swap_calls (w0 w:World) (base g c:Nat) (ok:Nat→Prop) (xs:List S84) (i j:Nat) (hi:i<xs.length) (hj:j<xs.length) (HR:(kQ w0).R 84 w base ok (.slice (some ⟨g,0,none⟩) xs.length c) xs) :
  Calls Try.prog 117 #[.slice (some ⟨g,0,none⟩) xs.length c,.int .i64 i,.int .i64 j] w fun e w'=>e = .returned (.tuple #[])∧(kQ w0).R 84 w' base ok (.slice (some ⟨g,0,none⟩) xs.length c) (swapQ xs i j)∧w.grownBy w' (some g):=by
 obtain ⟨ci,hcl,hMi,hci,hfi⟩:=Kd.R_elem HR z84 (i:Int) (by omega) (by omega);obtain ⟨cj,hcl2,hMj,hcj,hfj⟩:=Kd.R_elem HR z84 (j:Int) (by omega) (by omega);rw [Int.toNat_natCast] at hMi hMj hci hcj hfi hfj;obtain ⟨Ai,ai,rfl,hli,hCi⟩:=kQ_open hMi;obtain ⟨Aj,aj,rfl,hlj,hCj⟩:=kQ_open hMj;have hu:=Try.underlying81;have hu2:=Try.underlying84;have b1:decide ((0:Int)≤(i:Int))=true:=decide_eq_true (by omega);have b2:decide ((0:Int)≤(j:Int))=true:=decide_eq_true (by omega);have b3:decide ((i:Int)<(xs.length:Int))=true:=decide_eq_true (by omega);have b4:decide ((j:Int)<(xs.length:Int))=true:=decide_eq_true (by omega)
 have hj2:w.drew.rangeAt g (j*2) [.slice Aj (xs.getD j z84).f0.length aj,.int .i64 (xs.getD j z84).f1]:=fun q v hq=>hcj q v hq
 have hi2:w.drew.rangeAt g (i*2) [.slice Ai (xs.getD i z84).f0.length ai,.int .i64 (xs.getD i z84).f1]:=fun q v hq=>hci q v hq
 have t1:w.drew.there g (i*2) 2:=fun q hq=>⟨by rw [hi2 q _ (List.getElem?_eq_getElem (by simpa using hq))];rfl,hfi q⟩
 have t2_:w.drew.there g (j*2) 2:=fun q hq=>⟨by rw [hj2 q _ (List.getElem?_eq_getElem (by simpa using hq))];rfl,hfj q⟩
 have t2:(w.drew.setCells g (i*2) [.slice Aj (xs.getD j z84).f0.length aj,.int .i64 (xs.getD j z84).f1]).there g (j*2) 2:=World.there_setCells t2_ _ _ _;obtain ⟨HR1,HG1⟩:=put_elem (Kd.R_drew HR) i hi (x':=xs.getD j z84) hlj hCj;obtain ⟨HR2,HG2⟩:=put_elem HR1 j (by rw [List.length_set];exact hj) (x':=xs.getD i z84) hli hCi;have HG:w.grownBy ((w.drew.setCells g (i*2) [.slice Aj (xs.getD j z84).f0.length aj,.int .i64 (xs.getD j z84).f1]).setCells g (j*2) [.slice Ai (xs.getD i z84).f0.length ai,.int .i64 (xs.getD i z84).f1]) (some g):=grown_two HG1 HG2
 go_enter Try.func117,Try.ntmps117
 refine start_ (n:=16) (ds:=[13,15]) (S:=fun w'=>w'.rangeAt g (i*2) [.slice Ai (xs.getD i z84).f0.length ai,.int .i64 (xs.getD i z84).f1]∧w'.rangeAt g (j*2) [.slice Aj (xs.getD j z84).f0.length aj,.int .i64 (xs.getD j z84).f1]) (bA 16 0) rfl rfl rfl ⟨hi2,hj2⟩ (fun hHeld=>?_);refine pure_ (i:=0) (N:=some 6) (v:=?_) (a':=?_) (bA 16 1) rfl rfl (by kernel_rfl) (fun _ _ _ h=>h) (Or.inl ⟨by rfl,?_⟩) ?_ ?_
 rotate_left
 ·
  intro w'
  go_simp
  with_reducible rfl
 rotate_left
 ·
  simp only [Act.put,lsa,lsz,lss,i64_w,i32_w]
  rfl
 refine pure_ (i:=1) (N:=some 7) (v:=?_) (a':=?_) (bA 16 3) rfl rfl (by kernel_rfl) (fun _ _ _ h=>h) (Or.inl ⟨by rfl,?_⟩) ?_ ?_
 rotate_left
 ·
  intro w'
  go_simp
  with_reducible rfl
 rotate_left
 ·
  simp only [Act.put,lsa,lsz,lss,i64_w,i32_w]
  rfl
 refine pure_ (i:=2) (N:=some 8) (v:=?_) (a':=?_) (bA 16 7) rfl rfl (by kernel_rfl) (fun _ _ _ h=>h) (Or.inl ⟨by rfl,?_⟩) ?_ ?_
 rotate_left
 ·
  intro w'
  go_simp
  with_reducible rfl
 rotate_left
 ·
  simp only [Act.put,lsa,lsz,lss,i64_w,i32_w]
  rfl
 refine pure_ (i:=3) (N:=some 9) (v:=?_) (a':=?_) (bA 16 15) rfl rfl (by kernel_rfl) (fun _ _ _ h=>h) (Or.inl ⟨by rfl,?_⟩) ?_ ?_
 rotate_left
 ·
  intro w'
  go_simp
  with_reducible rfl
 rotate_left
 ·
  simp only [Act.put,lsa,lsz,lss,i64_w,i32_w]
  rfl
 refine pure_ (i:=4) (N:=some 10) (v:=?_) (a':=?_) (bA 16 31) rfl rfl (by kernel_rfl) (fun _ _ _ h=>h) (Or.inl ⟨by rfl,?_⟩) ?_ ?_
 rotate_left
 ·
  intro w'
  go_simp
  with_reducible rfl
 rotate_left
 ·
  simp only [Act.put,lsa,lsz,lss,i64_w,i32_w]
  rfl
 refine pure_ (i:=5) (N:=some 11) (v:=?_) (a':=?_) (bA 16 63) rfl rfl (by kernel_rfl) (fun _ _ _ h=>h) (Or.inl ⟨by rfl,?_⟩) ?_ ?_
 rotate_left
 ·
  intro w'
  go_simp
  with_reducible rfl
 rotate_left
 ·
  simp only [Act.put,lsa,lsz,lss,i64_w,i32_w]
  rfl
 refine pure_ (i:=6) (N:=some 12) (v:=?_) (a':=?_) (bA 16 127) rfl rfl (by kernel_rfl) (fun _ _ _ h=>h) (Or.inl ⟨by rfl,?_⟩) ?_ ?_
 rotate_left
 ·
  intro w'
  go_simp
  with_reducible rfl
 rotate_left
 ·
  simp only [Act.put,lsa,lsz,lss,i64_w,i32_w]
  rfl
 refine take_ (i:=7) (N:=some 13) (v:=.agg #[.slice Aj (xs.getD j z84).f0.length aj,.int .i64 (xs.getD j z84).f1]) (a':=?a7) (bA 16 255) rfl rfl (by kernel_rfl) (fun _ _ _ h=>h) ?hy7 hHeld ?ha7 ?hh7
 case hy7=>exact yieldsIf_load_mid (by rfl) 84 _ rfl g (j*2) (by go_simp) _ _ (fun w' hw'=>hw'.2) hu2 rfl rfl
 case ha7=>
  simp only [Act.put,lsa,lsz,lss,i64_w,i32_w]
  rfl
 refine pure_ (i:=8) (N:=some 14) (v:=?_) (a':=?_) (bA 16 511) rfl rfl (by kernel_rfl) (fun _ _ _ h=>h) (Or.inl ⟨by rfl,?_⟩) ?_ ?_
 rotate_left
 ·
  intro w'
  go_simp
  with_reducible rfl
 rotate_left
 ·
  simp only [Act.put,lsa,lsz,lss,i64_w,i32_w]
  rfl
 refine pure_ (i:=9) (N:=some 15) (v:=?_) (a':=?_) (bA 16 1023) rfl rfl (by kernel_rfl) (fun _ _ _ h=>h) (Or.inl ⟨by rfl,?_⟩) ?_ ?_
 rotate_left
 ·
  intro w'
  go_simp
  with_reducible rfl
 rotate_left
 ·
  simp only [Act.put,lsa,lsz,lss,i64_w,i32_w]
  rfl
 refine pure_ (i:=10) (N:=some 16) (v:=?_) (a':=?_) (bA 16 2047) rfl rfl (by kernel_rfl) (fun _ _ _ h=>h) (Or.inl ⟨by rfl,?_⟩) ?_ ?_
 rotate_left
 ·
  intro w'
  go_simp
  with_reducible rfl
 rotate_left
 ·
  simp only [Act.put,lsa,lsz,lss,i64_w,i32_w]
  rfl
 refine take_ (i:=11) (N:=some 17) (v:=.agg #[.slice Ai (xs.getD i z84).f0.length ai,.int .i64 (xs.getD i z84).f1]) (a':=?a11) (bA 16 4095) rfl rfl (by kernel_rfl) (fun _ _ _ h=>h) ?hy11 hHeld ?ha11 ?hh11
 case hy11=>exact yieldsIf_load_mid (by rfl) 84 _ rfl g (i*2) (by go_simp) _ _ (fun w' hw'=>hw'.1) hu2 rfl rfl
 case ha11=>
  simp only [Act.put,lsa,lsz,lss,i64_w,i32_w]
  rfl
 refine pure_ (i:=12) (N:=some 18) (v:=?_) (a':=?_) (bA 16 8191) rfl rfl (by kernel_rfl) (fun _ _ _ h=>h) (Or.inl ⟨by rfl,?_⟩) ?_ ?_
 rotate_left
 ·
  intro w'
  go_simp
  with_reducible rfl
 rotate_left
 ·
  simp only [Act.put,lsa,lsz,lss,i64_w,i32_w]
  rfl
 refine last_ (i:=13) (N:=none) (bA 16 16383) rfl rfl (by kernel_rfl) (by decide) (fun K hK=>?_);rw [if_pos (by rfl)];refine wp_store_mid 84 _ _ rfl g (i*2) #[.slice Aj (xs.getD j z84).f0.length aj,.int .i64 (xs.getD j z84).f1] rfl rfl t1 rfl (by kernel_rfl) ?_;refine hK.out _ _ ?_;clear hK K;refine norm_ (a':=?_) ?_ ?_
 rotate_left
 ·
  simp only [Act.put,lsa,lsz,lss,i64_w,i32_w]
  rfl
 refine pure_ (i:=14) (N:=some 19) (v:=?_) (a':=?_) (bA 16 32767) rfl rfl (by kernel_rfl) (fun _ _ _ h=>h) (Or.inl ⟨by rfl,?_⟩) ?_ ?_
 rotate_left
 ·
  intro w'
  go_simp
  with_reducible rfl
 rotate_left
 ·
  simp only [Act.put,lsa,lsz,lss,i64_w,i32_w]
  rfl
 refine last_ (i:=15) (N:=none) (bA 16 65535) rfl rfl (by kernel_rfl) (by decide) (fun K hK=>?_);rw [if_pos (by rfl)];refine wp_store_mid 84 _ _ rfl g (j*2) #[.slice Ai (xs.getD i z84).f0.length ai,.int .i64 (xs.getD i z84).f1] rfl rfl t2 rfl (by kernel_rfl) ?_;refine hK.out _ _ ?_;clear hK K;refine done_ (by kernel_rfl) ?_
 go_end0
 exact ⟨rfl,HR2,HG⟩
structure QR (w0:World) (gq:Nat) (w:World) (v:Value) (xs:List S84):Prop where
 box:w.heap[gq]? = some (.cells #[v] 81 (0,0))
 row:(kQ w0).R 84 w w0.heap.size (fun k=>k≠gq) v xs
 ge:w0.heap.size≤gq
 bel:Below w0.heap.size w0 w
def Odd_ (o:Obj):Prop:=(∀ cells,o≠.cells cells 81 (0,0))∧∀ cells,o≠.cells cells 84 (0,0)
structure Fr (w w':World):Prop where
 size:w.heap.size≤w'.heap.size
 keep:∀ (k:Nat) (o:Obj),w.heap[k]? = some o→Odd_ o→w'.heap[k]? = some o
theorem Fr.refl (w:World):Fr w w:=⟨Nat.le_refl _,fun _ _ h _=>h⟩
theorem Fr.trans {w w1 w2:World} (h:Fr w w1) (h':Fr w1 w2):Fr w w2:=⟨Nat.le_trans h.size h'.size,fun k o hk ho=>h'.keep k o (h.keep k o hk ho) ho⟩
theorem Fr.below {w w1:World} (h:Below w.heap.size w w1):Fr w w1:=⟨h.size,fun k o hk _=>blk_below hk h⟩
theorem QR.below {w0 w w1:World} {gq:Nat} {v:Value} {xs:List S84} (h:QR w0 gq w v xs) (hb:Below w.heap.size w w1):QR w0 gq w1 v xs:=
 ⟨blk_below h.box hb,Kd.R_below h.row hb,h.ge,below_step h.bel hb⟩
theorem QR.cell {w0 w:World} {gq:Nat} {v:Value} {xs:List S84} (h:QR w0 gq w v xs):w.cell? ⟨gq,0,none⟩=some v:=(blk_cell h.box 0).trans rfl
theorem QR.slice {w0 w:World} {gq:Nat} {v:Value} {xs:List S84} (h:QR w0 gq w v xs):∃ A c,v = .slice A xs.length c∧xs.length≤c∧k84.C w A xs.length xs:=by
 obtain ⟨A,c,rfl⟩:=Kd.R_slice h.row;obtain ⟨h1,h2,h3⟩:=Kd.R_reads' h.row;exact ⟨A,c,rfl,by omega,kQ_C h.bel h3⟩
theorem QR.form {w0 w:World} {gq:Nat} {v:Value} {xs:List S84} (h:QR w0 gq w v xs) (hn:0<xs.length):∃ g c,v = .slice (some ⟨g,0,none⟩) xs.length c∧xs.length≤c∧k84.C w (some ⟨g,0,none⟩) xs.length xs:=by
 obtain ⟨g,c,rfl,_,_⟩:=Kd.R_form h.row hn;obtain ⟨h1,h2,h3⟩:=Kd.R_reads' h.row;exact ⟨g,c,rfl,h2,kQ_C h.bel h3⟩
theorem QR.max {w0 w:World} {gq:Nat} {v:Value} {xs:List S84} (h:QR w0 gq w v xs):xs.length≤9223372036854775807:=by
 obtain ⟨A,c,_,_,hC⟩:=h.slice;exact Kd.C_max hC
theorem below_box {B:Nat} {a w:World} (h:Below B a w) {g:Nat} (hg:B≤g) (u:Value):Below B a (w.setCell ⟨g,0,none⟩ u):=h.setCell hg u
theorem QR.put {w0 w w1:World} {gq:Nat} {v v':Value} {xs ys:List S84} (h:QR w0 gq w v xs) (hx:w1.heap[gq]? = some (.cells #[v] 81 (0,0))) (hr:(kQ w0).R 84 w1 w0.heap.size (fun k=>k≠gq) v' ys) (hb:Below w0.heap.size w0 w1):QR w0 gq (w1.setCell ⟨gq,0,none⟩ v') v' ys:=
 ⟨(blk_set hx 0 v').trans rfl,Kd.R_far hr (fun _ hk=>hk) v',h.ge,hb.setCell h.ge v'⟩
theorem Fr.set {w w1:World} {gq:Nat} {v v':Value} (h:Fr w w1) (hx:w1.heap[gq]? = some (.cells #[v] 81 (0,0))):Fr w (w1.setCell ⟨gq,0,none⟩ v'):=by
 refine ⟨Nat.le_trans h.size (by simp),fun k o hk ho=>?_⟩
 have hne:k≠gq:=by
  rintro rfl
  have:=h.keep _ o hk ho
  rw [hx] at this;exact ho.1 _ (Option.some.inj this).symm
 exact (Below.heap_setCell w1 _ v' k (fun e=>hne e)).trans (h.keep k o hk ho)
theorem Fr.grown {w0 w1 w2:World} {v:Value} {base:Nat} {ok:Nat→Prop} {xs:List S84} {w:World} (h:Fr w w1) (hr:(kQ w0).R 84 w1 base ok v xs) (hg:w1.grownBy w2 v.ownBlock):Fr w w2:=by
 refine ⟨Nat.le_trans h.size hg.size,fun k o hk ho=>?_⟩;have h1:=h.keep k o hk ho;refine (hg.block k (blk_lt h1) (fun he=>?_)).trans h1;obtain ⟨cells,hc⟩:=Kd.R_typed hr k he.symm;rw [h1] at hc;exact ho.2 _ (Option.some.inj hc)
theorem QR.swap {w0 w w1:World} {gq g c:Nat} {xs:List S84} {i j:Nat} (h:QR w0 gq w (.slice (some ⟨g,0,none⟩) xs.length c) xs) (hr:(kQ w0).R 84 w1 w0.heap.size (fun k=>k≠gq) (.slice (some ⟨g,0,none⟩) xs.length c) (swapQ xs i j)) (hg:w.grownBy w1 (some g)):QR w0 gq w1 (.slice (some ⟨g,0,none⟩) xs.length c) (swapQ xs i j)∧Fr w w1:=by
 have he:(Value.slice (some ⟨g,0,none⟩) xs.length c).ownBlock=some g:=rfl;refine ⟨⟨blk_grown h.box hg (by rw [←he];exact Kd.R_ne h.row h.box (by decide)),hr,h.ge,pw_below_grown h.bel (some g) h.bel.size hg (fun k hk=>by rw [←he] at hk;exact Kd.R_base h.row k hk)⟩,?_⟩;exact (Fr.refl w).grown h.row (by rw [he];exact hg)
theorem push_calls {w0 w:World} {gq:Nat} {v:Value} {xs:List S84} (e:S84) {A:Option Addr} {c:Nat} (hl:e.f0.length≤c) (hC:k26.C w0 A e.f0.length e.f0) (hn:xs.length≤1000000) (h:QR w0 gq w v xs) :
  Calls Try.prog 116 #[.pointer (some ⟨gq,0,none⟩),.iface 84 (.agg #[.slice A e.f0.length c,.int .i64 e.f1])] w fun en w'=>en = .returned (.tuple #[])∧∃ v',QR w0 gq w' v' (xs++[e])∧Fr w w':=by
 have hu41:=Try.underlying81;have hu44:=Try.underlying84;have hu39:=Try.underlying79
 have hta:∀ w:World,(Instr.typeAssert (.iface 84 (.agg #[.slice A e.f0.length c,.int .i64 e.f1])) 20 84 true).run Try.prog w = .ok (.tuple #[.agg #[.slice A e.f0.length c,.int .i64 e.f1],.bool true]) w:=fun _=>by kernel_rfl
 have H:=aS h;clear h
 go_enter Try.func116,Try.ntmps116
 go_upto_region 2 with (first | ((with_reducible refine gate_dst (N:=4) rfl ?_);refine box_event ?hg (N:=4) ?hd (cs:=#[.slice none 0 0,.int .i64 0]) (t:=84) ?hr ?_;(case hd=>rfl);(case hg=>rfl);(case hr=>(first | (go_simp;done) | (go_simp;rfl)));intro g4 hg w2 hb hbl;have G4:=aS hg;have B4:=aS hb;have L4:=aS hbl;clear hg hb hbl) | ((with_reducible refine gate_store (t:=84) (p:=4) rfl ?_);refine wpList_store_row rfl 84 _ _ rfl g4 #[.slice A e.f0.length c,.int .i64 e.f1] rfl rfl 84 _ B4.out (by kernel_rfl) rfl (by kernel_rfl) ?_))
 have hg4:w.heap.size≤g4:=by rw [G4.out];exact Nat.le_refl _
 have l5:Below w.heap.size w (w2.setRow g4 #[.slice A e.f0.length c,.int .i64 e.f1]):=below_setRow L4.out hg4 _;have b5:(w2.setRow g4 #[.slice A e.f0.length c,.int .i64 e.f1]).heap[g4]? = some (.cells #[.slice A e.f0.length c,.int .i64 e.f1] 84 (0,0)):=setRow_heap _ _ _ _ _ _ B4.out;have L5:=aS l5;have B5:=aS b5;clear l5 b5 B4 L4 G4
 generalize w2.setRow g4 #[.slice A e.f0.length c,.int .i64 e.f1]=w3 at L5 B5 ⊢
 have h4:=H.out.below (below_drew L5.out);have F4:=aS (Fr.below (below_drew L5.out));have B6:w3.drew.heap[g4]? = some (.cells #[.slice A e.f0.length c,.int .i64 e.f1] 84 (0,0)):=B5.out
 have r6:w3.drew.rangeAt g4 0 [.slice A e.f0.length c,.int .i64 e.f1]:=fun q u hq=>(blk_cell B6 (0+q)).trans (by rw [Nat.zero_add,List.getElem?_toArray];exact hq)
 have H4:=aS h4;have B6:=aS B6;clear H L5 B5 h4;refine start_ (n:=9) (ds:=[6,8]) (S:=fun w'=>w'.cell? ⟨gq,0,none⟩=some v∧w'.rangeAt g4 0 [.slice A e.f0.length c,.int .i64 e.f1]) (bA 9 0) rfl rfl rfl ⟨H4.out.cell,r6⟩ (fun hHeld=>?_)
 generalize w3.drew=w4 at H4 F4 B6 hHeld ⊢
 refine pure_ (i:=0) (N:=(some 12)) (v:=?_) (a':=?_) (bA 9 1) rfl rfl (by kernel_rfl) (fun _ _ _ h=>h) (Or.inl ⟨by rfl,?_⟩) ?_ ?_
 rotate_left
 ·
  intro w'
  go_simp
  with_reducible rfl
 rotate_left
 ·
  simp only [Act.put,lsa,lsz,lss,i64_w,i32_w]
  rfl
 refine pure_ (i:=1) (N:=(some 13)) (v:=?_) (a':=?_) (bA 9 3) rfl rfl (by kernel_rfl) (fun _ _ _ h=>h) (Or.inl ⟨by rfl,?_⟩) ?_ ?_
 rotate_left
 ·
  intro w'
  go_simp
  with_reducible rfl
 rotate_left
 ·
  simp only [Act.put,lsa,lsz,lss,i64_w,i32_w]
  rfl
 refine pure_ (i:=2) (N:=(some 14)) (v:=?_) (a':=?_) (bA 9 7) rfl rfl (by kernel_rfl) (fun _ _ _ h=>h) (Or.inl ⟨by rfl,?_⟩) ?_ ?_
 rotate_left
 ·
  intro w'
  go_simp
  with_reducible rfl
 rotate_left
 ·
  simp only [Act.put,lsa,lsz,lss,i64_w,i32_w]
  rfl
 refine take_ (i:=3) (N:=(some 15)) (v:=v) (a':=?a3) (bA 9 15) rfl rfl (by kernel_rfl) (fun _ _ _ h=>h) ?hy3 hHeld ?ha3 ?hh3
 case hy3=>exact Or.inl ⟨by rfl,fun w' hw'=>by have h1:=hw'.1;go_simp⟩
 case ha3=>
  simp only [Act.put,lsa,lsz,lss,i64_w,i32_w]
  rfl
 refine take_ (i:=4) (N:=(some 16)) (v:=.agg #[.slice A e.f0.length c,.int .i64 e.f1]) (a':=?a4) (bA 9 31) rfl rfl (by kernel_rfl) (fun _ _ _ h=>h) ?hy4 hHeld ?ha4 ?hh4
 case hy4=>exact yieldsIf_load_mid (by rfl) 84 _ rfl g4 0 (by go_simp) _ _ (fun w' hw'=>hw'.2) hu44 rfl rfl
 case ha4=>
  simp only [Act.put,lsa,lsz,lss,i64_w,i32_w]
  rfl
 refine one_ (i:=5) (N:=(some 17)) (bA 9 63) rfl rfl (by kernel_rfl) (by decide) (fun K hK=>?_);refine value_ (w1:=?_) (v:=?_) (by rfl) rfl ?_ ?_
 rotate_left 2
 ·
  go_simp
  constructor
  ·
   rfl
  ·
   rfl
 refine hK.out _ _ ⟨(blk_cell (blk_alloc H4.out.box _) 0).trans rfl,fun q u hq=>(blk_cell (blk_alloc B6.out _) (0+q)).trans (by rw [Nat.zero_add,List.getElem?_toArray];exact hq)⟩ (fun hHeld=>?_);clear hK K;refine nm 17 ?_;refine last_ (i:=6) (N:=(some 18)) (bA 9 127) rfl rfl (by kernel_rfl) (by decide) (fun K hK=>?_);refine Kd.R_append_step (kQ w0) (w0:=w0) w0.heap.size (by rfl) (.tmp 15) (.tmp 17) 81 84 (.agg #[.slice none 0 0,.int .i64 0]) 32 rfl Try.underlying81 info84 rfl (by show 0<2;omega) (by omega) v xs e [.slice A e.f0.length c,.int .i64 e.f1] (fun k=>k≠gq) (fun _=>False) rfl rfl ?aP (fun _ hk=>hk.elim) ?aF H4.out.row H4.out.bel ?aS ?aL ?_
 case aP=>exact kQ_mk w0 _ _ _ e hl hC
 case aF=>intro k hk;have:=blk_lt H4.out.box;omega
 case aS=>exact H4.out.bel.size
 case aL=>omega
 intro v1 w5 ho hb hg hat
 have hx5:=blk_grown H4.out.box (w1:=w5) hg (Kd.R_ne H4.out.row H4.out.box (by decide));have F5:=aS (F4.out.grown H4.out.row hg);have X5:=aS hx5;have O5:=aS ho;have L5:=aS hb;clear hx5 ho hb hg hat;refine hK.out _ _ ?_;clear hK K;refine nm 18 ?_;refine pure_ (i:=7) (N:=(some 19)) (v:=?_) (a':=?_) (bA 9 255) rfl rfl (by kernel_rfl) (fun _ _ _ h=>h) (Or.inl ⟨by rfl,?_⟩) ?_ ?_
 rotate_left
 ·
  intro w'
  go_simp
  with_reducible rfl
 rotate_left
 ·
  simp only [Act.put,lsa,lsz,lss,i64_w,i32_w]
  rfl
 refine last_ (i:=8) (N:=none) (bA 9 511) rfl rfl (by kernel_rfl) (by decide) (fun K hK=>?_);rw [if_pos (by rfl)];obtain ⟨A1,c1,rfl⟩:=Kd.R_slice O5.out;have hfz:=blk_frozen X5.out 0;have hcl:=(blk_cell X5.out 0).trans rfl
 unfold Oper.wp
 go_simp
 refine hK.out _ _ ?_;clear hK K;refine done_ (by kernel_rfl) ?_
 go_end0
 have o5:=O5.out;rw [List.length_append,List.length_singleton] at o5;exact ⟨rfl,_,H4.out.put X5.out o5 L5.out,F5.out.set X5.out⟩
theorem pop_calls {w0 w:World} {gq:Nat} {v:Value} {xs:List S84} (hn:0<xs.length) (h:QR w0 gq w v xs) :
  Calls Try.prog 115 #[.pointer (some ⟨gq,0,none⟩)] w fun en w'=>(∃ u,en = .returned u)∧∃ v',QR w0 gq w' v' (xs.take (xs.length - 1))∧Fr w w':=by
 have hu41:=Try.underlying81;have hu44:=Try.underlying84;have hu39:=Try.underlying79;have hmax:=h.max;obtain ⟨g,c,rfl,hg,_⟩:=Kd.R_form h.row hn;obtain ⟨cs,hcl,hM,hc,hf⟩:=Kd.R_elem h.row z84 ((xs.length - 1:Nat):Int) (by omega) (by omega);rw [Int.toNat_natCast] at hc hM;obtain ⟨A,a,rfl,hl,hC⟩:=kQ_open hM;have hsz:(kQ w0).sz=2:=rfl;rw [hsz] at hc
 generalize xs.getD (xs.length - 1) z84=e at *
 have hcell:=h.cell;have hc0:w.cell? ⟨g,(xs.length - 1)*2,none⟩=some (.slice A e.f0.length a):=hc 0 _ rfl;have hc1:w.cell? ⟨g,(xs.length - 1)*2+1,none⟩=some (.int .i64 e.f1):=hc 1 _ rfl;obtain ⟨i0,hi0,_,_,_⟩:=info_parts info84;have hcut:=cut_to (P:=Try.prog) 81 84 .i64 Try.underlying81 hi0 (some ⟨g,0,none⟩) xs.length c ((xs.length:Int) - 1) (by omega) (by omega) (by have:=(Kd.R_reads' h.row).2.1;omega)
 go_enter Try.func115,Try.ntmps115
 go_wp2_with (first | ((with_reducible refine gate_dst (N:=4) rfl ?_);refine box_event ?hg (N:=4) ?hd (cs:=#[.slice none 0 0,.int .i64 0]) (t:=84) ?hr ?_;(case hd=>rfl);(case hg=>rfl);(case hr=>(first | (go_simp;done) | (go_simp;rfl)));intro g4 hg w2 hb hbl;have G4:=aS hg;have B4:=aS hb;have L4:=aS hbl;clear hg hb hbl) | ((with_reducible refine gate_store (t:=84) (p:=4) rfl ?_);refine wpList_store_row rfl 84 _ _ rfl g4 #[.slice A e.f0.length a,.int .i64 e.f1] rfl rfl 84 _ B4.out (by kernel_rfl) rfl (by kernel_rfl) ?_;have l5:=below_setRow L4.out (g:=g4) (by rw [G4.out];exact Nat.le_refl _) #[.slice A e.f0.length a,.int .i64 e.f1];have L5:=aS l5;have B5:=aS (show (World.setRow w2 g4 #[.slice A e.f0.length a,.int .i64 e.f1]).heap[g4]? = some (.cells #[.slice A e.f0.length a,.int .i64 e.f1] 84 (0,0)) from setRow_heap _ _ _ _ _ _ B4.out);clear l5 B4 L4;generalize World.setRow w2 g4 #[.slice A e.f0.length a,.int .i64 e.f1]=w5 at L5 B5 ⊢;have H5:=aS (h.below L5.out);have hx5:=H5.out.cell;have hfz:=blk_frozen H5.out.box 0;have hx6:=(blk_cell B5.out 0).trans rfl;have hne:gq≠g4:=blk_ne H5.out.box B5.out (by decide);have hb8:=blk_far B5.out (p:=⟨gq,0,none⟩) (fun e=>hne e.symm) (.slice (some ⟨g,0,none⟩) (xs.length - 1) c);have hx8:=(blk_cell hb8 0).trans rfl;have hx9:=(blk_cell hb8 1).trans rfl))
 have hb8:=()
 go_ret
 have h5:=H5.out;refine ⟨⟨_,rfl⟩,_,h5.put h5.box (Kd.R_take h5.row (m:=xs.length - 1) (by omega)) h5.bel,(Fr.below L5.out).set h5.box⟩
def upF (k:Nat):Nat→List S84→Nat→Option (List S84)
 | 0,_,_=>none
 | m+1,xs,j=>if j=0 then some xs else (merge_queue_Less.f k xs (j:Int) (((j - 1) / 2:Nat):Int)).bind fun b=>if b=true then upF k m (swapQ xs ((j - 1) / 2) j) ((j - 1) / 2) else some xs
theorem up_calls (k:Nat) {w0 w:World} {gq:Nat} {v:Value} {xs r:List S84} (j:Nat) (hj:j<xs.length) (h:QR w0 gq w v xs) (hr:upF k k xs j=some r) :
  Calls Try.prog 67 #[.iface 79 (.pointer (some ⟨gq,0,none⟩)),.int .i64 j] w fun en w'=>en = .returned (.tuple #[])∧∃ v',QR w0 gq w' v' r∧Fr w w':=by
 have hu39:=Try.underlying79;have H:=aS h;have A0:=aS hr;clear h hr
 go_enter Try.func67,Try.ntmps67
 go_wp2
 go_loopw [1] (fun v1 w1=>∃ (m j:Nat) (v:Value) (xs:List S84),v1 = .int .i64 (j:Int)∧Aside0 (j<xs.length)∧Aside0 (QR w0 gq w1 v xs)∧Aside0 (upF k m xs j=some r)∧Aside0 (Fr w w1)) (fun j _=>(intOf j).toNat)
 case atStart=>exact ⟨k,j,v,xs,rfl,⟨hj⟩,H,A0,⟨Fr.refl w⟩⟩
 case round=>
  clear H A0 hj;obtain ⟨m,j,v,xs,rfl,hj,H,A1,F1⟩:=hrel;have hm:=H.out.max;have hj:=hj.out;have a1:=A1.out
  cases m with
  | zero=>cases a1
  | succ m=>
   unfold upF at a1
   by_cases hj0:j=0
   ·
    subst hj0;rw [if_pos rfl] at a1
    obtain rfl:=Option.some.inj a1
    go_wp2_with (fail)
    go_end0
    exact ⟨rfl,⟨_,H.out⟩,F1.out⟩
   ·
    rw [if_neg hj0] at a1;obtain ⟨b,hb,a1⟩:=Option.bind_eq_some_iff.1 a1
    obtain ⟨i,hi⟩:∃ i,(j - 1) / 2=i:=⟨_,rfl⟩
    rw [hi] at hb a1
    have hq:Int.tdiv ((j:Int) - 1) 2=(i:Int):=by
     rw [show ((j:Int) - 1)=((j - 1:Nat):Int) by omega,← hi]
     rfl
    have hij:i<j:=by omega
    have hne:¬ ((i:Int)=(j:Int)):=by omega
    have hmL:=hm58 wr gq v H.out.cell;obtain ⟨g,c,rfl,hc,hC⟩:=H.out.form (by omega);have A2:=aS a1;have HB:=aS hb;have HC:=aS hC;clear a1 A1 hb hC hi
    cases b with
    | true=>
     rw [if_pos rfl] at A2
     go_wp2_with (first | (go_at_call 114;(with_reducible refine (merge_queue_Less.calls k _ c xs j i true _ HC.out hc HB.out).mono ?_);rintro e w5 ⟨rfl,hb⟩;have H5:=aS (H.out.below hb);have F5:=aS (F1.out.trans (Fr.below hb));have hmS:=hm61 w5 gq _ H5.out.cell;clear hb) | (go_at_call 117;(with_reducible refine (swap_calls w0 _ w0.heap.size g c (fun k=>k≠gq) xs i j (by omega) hj H5.out.row).mono ?_);rintro e w6 ⟨rfl,hr,hg⟩;obtain ⟨h6,f6⟩:=H5.out.swap hr hg;have H6:=aS h6;have F6:=aS (F5.out.trans f6);clear hr hg h6 f6))
     go_roundw
     case rel=>exact ⟨m,i,_,swapQ xs i j,rfl,⟨by rw [swapQ_len];omega⟩,H6,A2,F6⟩
     case measure=>simp [intOf];omega
    | false=>
     rw [if_neg (by decide)] at A2;have a2:=A2.out
     obtain rfl:=Option.some.inj a2
     go_wp2_with (first | (go_at_call 114;(with_reducible refine (merge_queue_Less.calls k _ c xs j i false _ HC.out hc HB.out).mono ?_);rintro e w5 ⟨rfl,hb⟩;have H5:=aS (H.out.below hb);have F5:=aS (F1.out.trans (Fr.below hb));clear hb))
     go_end0
     exact ⟨rfl,_,H5.out,F5.out⟩
def downF (k n:Nat):Nat→List S84→Nat→Option (List S84 × Nat)
 | 0,_,_=>none
 | m+1,xs,i=>if n≤2*i+1 then some (xs,i) else (if 2*i+2<n then merge_queue_Less.f k xs ((2*i+2:Nat):Int) ((2*i+1:Nat):Int) else some false).bind fun b=>(merge_queue_Less.f k xs ((if b=true then 2*i+2 else 2*i+1:Nat):Int) (i:Int)).bind fun c=>if c=true then downF k n m (swapQ xs i (if b=true then 2*i+2 else 2*i+1)) (if b=true then 2*i+2 else 2*i+1) else some (xs,i)
theorem down_calls (k n:Nat) {w0 w:World} {gq:Nat} {v:Value} {xs r:List S84} {q:Nat} (i0:Nat) (hn:n≤xs.length) (hx:xs.length≤1000001) (hi:i0≤n) (h:QR w0 gq w v xs) (hr:downF k n k xs i0=some (r,q)) :
  Calls Try.prog 68 #[.iface 79 (.pointer (some ⟨gq,0,none⟩)),.int .i64 i0,.int .i64 n] w fun en w'=>en = .returned (.bool (decide (i0<q)))∧∃ v',QR w0 gq w' v' r∧Fr w w':=by
 have hu39:=Try.underlying79;have H:=aS h;have A0:=aS hr;clear h hr
 go_enter Try.func68,Try.ntmps68
 go_wp2
 go_loopw [7] (fun v7 w1=>∃ (m i:Nat) (v:Value) (xs:List S84),v7 = .int .i64 (i:Int)∧Aside0 (n≤xs.length∧xs.length≤1000001∧i≤n)∧Aside0 (QR w0 gq w1 v xs)∧Aside0 (downF k n m xs i=some (r,q))∧Aside0 (Fr w w1)) (fun i _=>n - (intOf i).toNat)
 case atStart=>exact ⟨k,i0,v,xs,rfl,⟨hn,hx,hi⟩,H,A0,⟨Fr.refl w⟩⟩
 case round=>
  clear H A0 hn hi;obtain ⟨m,i,v,xs,rfl,hi,H,A1,F1⟩:=hrel;obtain ⟨hn,hx,hi⟩:=hi.out;have a1:=A1.out;clear A1
  cases m with
  | zero=>cases a1
  | succ m=>
   unfold downF at a1
   obtain ⟨j1,hj1⟩:∃ j1,2*i+1=j1:=⟨_,rfl⟩
   obtain ⟨j2,hj2⟩:∃ j2,2*i+2=j2:=⟨_,rfl⟩
   rw [hj1,hj2] at a1
   have he1:2*(i:Int)+1=(j1:Int):=by omega
   have he2:(j1:Int)+1=(j2:Int):=by omega
   have hz:¬ (j1:Int)<0:=by omega
   by_cases hj:n≤j1
   ·
    rw [if_pos hj] at a1;have a2:=Option.some.inj a1
    simp only [Prod.mk.injEq] at a2
    obtain ⟨rfl,rfl⟩:=a2
    have hji:(n:Int)≤(j1:Int):=by omega
    go_wp2_with (fail)
    go_ret
    exact ⟨rfl,⟨_,H.out⟩,F1.out⟩
   ·
    rw [if_neg hj] at a1
    have hji:¬ (n:Int)≤(j1:Int):=by omega
    obtain ⟨b,hb,a1⟩:=Option.bind_eq_some_iff.1 a1;obtain ⟨c,hc,a1⟩:=Option.bind_eq_some_iff.1 a1;obtain ⟨g,cp,rfl,hcp,hC⟩:=H.out.form (by omega);have hmL:=hm58 wr gq _ H.out.cell;have HC:=aS hC;clear hC;have A2:=aS a1;have HB:=aS hb;have HX:=aS hc;clear a1 hb hc hj1 hj2
    by_cases hj2:j2<n
    ·
     rw [if_pos hj2] at HB
     have hjn:(j2:Int)<(n:Int):=by omega
     cases b with
     | true=>
      simp only [if_true] at A2 HX
      cases c with
      | true=>
       rw [if_pos rfl] at A2
       go_wp2_with (first | (go_at_call 114;(first | ((with_reducible refine (merge_queue_Less.calls k _ cp xs (j2:Int) (j1:Int) true _ HC.out hcp HB.out).mono ?_)) | ((with_reducible refine (merge_queue_Less.calls k _ cp xs (j2:Int) (i:Int) true _ HC.out hcp HX.out).mono ?_)));rintro e w5 ⟨rfl,hb⟩;have n0:=aS (H.out.below hb);have n1:=aS (F1.out.trans (Fr.below hb));have n2:=aS (Kd.C_below HC.out hb);clear H F1 HC;have H:=n0;have F1:=n1;have HC:=n2;clear n0 n1 n2 hb;have hmL_:=hm58 w5 gq _ H.out.cell;have hmS_:=hm61 w5 gq _ H.out.cell) | (go_at_call 117;(with_reducible refine (swap_calls w0 _ w0.heap.size g cp (fun k=>k≠gq) xs i j2 (by omega) (by omega) H.out.row).mono ?_);rintro e w6 ⟨rfl,hr,hg⟩;obtain ⟨h6,f6⟩:=H.out.swap hr hg;have H6:=aS h6;have F6:=aS (F1.out.trans f6);clear hr hg h6 f6))
       go_roundw
       case rel=>exact ⟨m,j2,_,swapQ xs i j2,rfl,⟨by rw [swapQ_len];exact ⟨hn,hx,by omega⟩⟩,H6,A2,F6⟩
       case measure=>simp [intOf];omega
      | false=>
       rw [if_neg (by decide)] at A2;have a2:=Option.some.inj A2.out
       simp only [Prod.mk.injEq] at a2
       obtain ⟨rfl,rfl⟩:=a2
       go_wp2_with (first | (go_at_call 114;(first | ((with_reducible refine (merge_queue_Less.calls k _ cp xs (j2:Int) (j1:Int) true _ HC.out hcp HB.out).mono ?_)) | ((with_reducible refine (merge_queue_Less.calls k _ cp xs (j2:Int) (i:Int) false _ HC.out hcp HX.out).mono ?_)));rintro e w5 ⟨rfl,hb⟩;have n0:=aS (H.out.below hb);have n1:=aS (F1.out.trans (Fr.below hb));have n2:=aS (Kd.C_below HC.out hb);clear H F1 HC;have H:=n0;have F1:=n1;have HC:=n2;clear n0 n1 n2 hb;have hmL_:=hm58 w5 gq _ H.out.cell;have hmS_:=hm61 w5 gq _ H.out.cell))
       go_ret
       exact ⟨rfl,_,H.out,F1.out⟩
     | false=>
      simp only [Bool.false_eq_true,if_false] at A2 HX
      cases c with
      | true=>
       rw [if_pos rfl] at A2
       go_wp2_with (first | (go_at_call 114;(first | ((with_reducible refine (merge_queue_Less.calls k _ cp xs (j2:Int) (j1:Int) false _ HC.out hcp HB.out).mono ?_)) | ((with_reducible refine (merge_queue_Less.calls k _ cp xs (j1:Int) (i:Int) true _ HC.out hcp HX.out).mono ?_)));rintro e w5 ⟨rfl,hb⟩;have n0:=aS (H.out.below hb);have n1:=aS (F1.out.trans (Fr.below hb));have n2:=aS (Kd.C_below HC.out hb);clear H F1 HC;have H:=n0;have F1:=n1;have HC:=n2;clear n0 n1 n2 hb;have hmL_:=hm58 w5 gq _ H.out.cell;have hmS_:=hm61 w5 gq _ H.out.cell) | (go_at_call 117;(with_reducible refine (swap_calls w0 _ w0.heap.size g cp (fun k=>k≠gq) xs i j1 (by omega) (by omega) H.out.row).mono ?_);rintro e w6 ⟨rfl,hr,hg⟩;obtain ⟨h6,f6⟩:=H.out.swap hr hg;have H6:=aS h6;have F6:=aS (F1.out.trans f6);clear hr hg h6 f6))
       go_roundw
       case rel=>exact ⟨m,j1,_,swapQ xs i j1,rfl,⟨by rw [swapQ_len];exact ⟨hn,hx,by omega⟩⟩,H6,A2,F6⟩
       case measure=>simp [intOf];omega
      | false=>
       rw [if_neg (by decide)] at A2;have a2:=Option.some.inj A2.out
       simp only [Prod.mk.injEq] at a2
       obtain ⟨rfl,rfl⟩:=a2
       go_wp2_with (first | (go_at_call 114;(first | ((with_reducible refine (merge_queue_Less.calls k _ cp xs (j2:Int) (j1:Int) false _ HC.out hcp HB.out).mono ?_)) | ((with_reducible refine (merge_queue_Less.calls k _ cp xs (j1:Int) (i:Int) false _ HC.out hcp HX.out).mono ?_)));rintro e w5 ⟨rfl,hb⟩;have n0:=aS (H.out.below hb);have n1:=aS (F1.out.trans (Fr.below hb));have n2:=aS (Kd.C_below HC.out hb);clear H F1 HC;have H:=n0;have F1:=n1;have HC:=n2;clear n0 n1 n2 hb;have hmL_:=hm58 w5 gq _ H.out.cell;have hmS_:=hm61 w5 gq _ H.out.cell))
       go_ret
       exact ⟨rfl,_,H.out,F1.out⟩
    ·
     rw [if_neg hj2] at HB
     have hjn:¬ (j2:Int)<(n:Int):=by omega
     obtain rfl:=Option.some.inj HB.out
     simp only [Bool.false_eq_true,if_false] at A2 HX
     cases c with
     | true=>
      rw [if_pos rfl] at A2
      go_wp2_with (first | (go_at_call 114;(first | ((with_reducible refine (merge_queue_Less.calls k _ cp xs (j1:Int) (i:Int) true _ HC.out hcp HX.out).mono ?_)));rintro e w5 ⟨rfl,hb⟩;have n0:=aS (H.out.below hb);have n1:=aS (F1.out.trans (Fr.below hb));have n2:=aS (Kd.C_below HC.out hb);clear H F1 HC;have H:=n0;have F1:=n1;have HC:=n2;clear n0 n1 n2 hb;have hmL_:=hm58 w5 gq _ H.out.cell;have hmS_:=hm61 w5 gq _ H.out.cell) | (go_at_call 117;(with_reducible refine (swap_calls w0 _ w0.heap.size g cp (fun k=>k≠gq) xs i j1 (by omega) (by omega) H.out.row).mono ?_);rintro e w6 ⟨rfl,hr,hg⟩;obtain ⟨h6,f6⟩:=H.out.swap hr hg;have H6:=aS h6;have F6:=aS (F1.out.trans f6);clear hr hg h6 f6))
      go_roundw
      case rel=>exact ⟨m,j1,_,swapQ xs i j1,rfl,⟨by rw [swapQ_len];exact ⟨hn,hx,by omega⟩⟩,H6,A2,F6⟩
      case measure=>simp [intOf];omega
     | false=>
      rw [if_neg (by decide)] at A2;have a2:=Option.some.inj A2.out
      simp only [Prod.mk.injEq] at a2
      obtain ⟨rfl,rfl⟩:=a2
      go_wp2_with (first | (go_at_call 114;(first | ((with_reducible refine (merge_queue_Less.calls k _ cp xs (j1:Int) (i:Int) false _ HC.out hcp HX.out).mono ?_)));rintro e w5 ⟨rfl,hb⟩;have n0:=aS (H.out.below hb);have n1:=aS (F1.out.trans (Fr.below hb));have n2:=aS (Kd.C_below HC.out hb);clear H F1 HC;have H:=n0;have F1:=n1;have HC:=n2;clear n0 n1 n2 hb;have hmL_:=hm58 w5 gq _ H.out.cell;have hmS_:=hm61 w5 gq _ H.out.cell))
      go_ret
      exact ⟨rfl,_,H.out,F1.out⟩
theorem len_calls {w0 w:World} {gq:Nat} {v:Value} {xs:List S84} (h:QR w0 gq w v xs):Calls Try.prog 45 #[v] w fun e w'=>e = .returned (.int .i64 (xs.length:Int))∧QR w0 gq w' v xs∧Fr w w'∧Below w.heap.size w w':=by
 obtain ⟨A,c,rfl,hc,hC⟩:=h.slice;refine (merge_queue_Len.calls A c xs (xs.length:Int) w hC hc rfl).mono ?_
 rintro e w1 ⟨rfl,hd⟩
 exact ⟨rfl,h.below hd.below,Fr.below hd.below,hd.below⟩
theorem hpush_calls (k:Nat) {w0 w:World} {gq:Nat} {v:Value} {xs r:List S84} (e:S84) {A:Option Addr} {c:Nat} (hl:e.f0.length≤c) (hC:k26.C w0 A e.f0.length e.f0) (hn:xs.length≤1000000) (h:QR w0 gq w v xs) (hr:upF k k (xs++[e]) xs.length=some r) :
  Calls Try.prog 44 #[.iface 79 (.pointer (some ⟨gq,0,none⟩)),.iface 84 (.agg #[.slice A e.f0.length c,.int .i64 e.f1])] w fun en w'=>en = .returned (.tuple #[])∧∃ v',QR w0 gq w' v' r∧Fr w w':=by
 have hu39:=Try.underlying79;have hmP:=hm60 w gq;have H:=aS h;have A0:=aS hr;clear h hr
 have hlen:((xs++[e]).length:Int) - 1=(xs.length:Int):=by simp
 go_enter Try.func44,Try.ntmps44
 go_wp2_with (first | (go_at_call 116;(with_reducible refine (push_calls e hl hC hn H.out).mono ?_);rintro en w1 ⟨rfl,v1,h1,f1⟩;have H1:=aS h1;have F1:=aS f1;have hmL:=hm25 w1 gq _ h1.cell;clear h1 f1) | (go_at_call 45;(with_reducible refine (len_calls H1.out).mono ?_);rintro en w2 ⟨rfl,h2,f2,_⟩;have H2:=aS h2;have F2:=aS (F1.out.trans f2);clear h2 f2) | (go_at_call 67;(with_reducible refine (up_calls k xs.length (by simp) H2.out A0.out).mono ?_);rintro en w3 ⟨rfl,v3,h3,f3⟩;have H3:=aS h3;have F3:=aS (F2.out.trans f3);clear h3 f3))
 go_end0
 exact ⟨rfl,_,H3.out,F3.out⟩
theorem hfix_calls (k:Nat) {w0 w:World} {gq:Nat} {v:Value} {xs r:List S84} {q:Nat} (hk:k≠0) (hn:xs.length≤1000001) (h0:0<xs.length) (h:QR w0 gq w v xs) (hr:downF k xs.length k xs 0=some (r,q)) (hrl:0<r.length) :
  Calls Try.prog 47 #[.iface 79 (.pointer (some ⟨gq,0,none⟩)),.int .i64 0] w fun en w'=>en = .returned (.tuple #[])∧∃ v',QR w0 gq w' v' r∧Fr w w':=by
 have hu39:=Try.underlying79;have hmL:=hm25 w gq _ h.cell;have H:=aS h;have A0:=aS hr;have A1:Aside0 (upF k k r 0=some r):=⟨by cases k with | zero=>exact absurd rfl hk | succ k=>rfl⟩;clear h hr
 go_enter Try.func47,Try.ntmps47
 by_cases hq:0<q
 ·
  go_wp2_with (first | (go_at_call 45;(with_reducible refine (len_calls H.out).mono ?_);rintro en w2 ⟨rfl,h2,f2,_⟩;have H2:=aS h2;have F2:=aS f2;clear h2 f2) | (go_at_call 68;(refine (down_calls k xs.length 0 (Nat.le_refl _) hn (by omega) H2.out A0.out).mono ?_);rintro en w3 ⟨rfl,v3,h3,f3⟩;have H3:=aS h3;have F3:=aS (F2.out.trans f3);clear h3 f3))
  go_end0
  exact ⟨rfl,_,H3.out,F3.out⟩
 ·
  go_wp2_with (first | (go_at_call 45;(with_reducible refine (len_calls H.out).mono ?_);rintro en w2 ⟨rfl,h2,f2,_⟩;have H2:=aS h2;have F2:=aS f2;clear h2 f2) | (go_at_call 68;(refine (down_calls k xs.length 0 (Nat.le_refl _) hn (by omega) H2.out A0.out).mono ?_);rintro en w3 ⟨rfl,v3,h3,f3⟩;have H3:=aS h3;have F3:=aS (F2.out.trans f3);clear h3 f3) | (go_at_call 67;(refine (up_calls k 0 hrl H3.out A1.out).mono ?_);rintro en w4 ⟨rfl,v4,h4,f4⟩;have H4:=aS h4;have F4:=aS (F3.out.trans f4);clear h4 f4))
  go_end0
  exact ⟨rfl,_,H4.out,F4.out⟩
theorem hpop_calls (k:Nat) {w0 w:World} {gq:Nat} {v:Value} {xs r:List S84} {q n:Nat} (hn:xs.length≤1000001) (hx:xs.length=n+1) (h:QR w0 gq w v xs) (hr:downF k n k (swapQ xs 0 n) 0=some (r,q)) (hrl:r.length=n+1) :
  Calls Try.prog 46 #[.iface 79 (.pointer (some ⟨gq,0,none⟩))] w fun en w'=>(∃ u,en = .returned u)∧∃ v',QR w0 gq w' v' (r.take n)∧Fr w w':=by
 have hu39:=Try.underlying79;have hmL:=hm25 w gq _ h.cell;obtain ⟨g,c,rfl,hc,hC⟩:=h.form (by omega);have H:=aS h;have A0:=aS hr;clear h hr hC
 have hlen:(xs.length:Int) - 1=(n:Int):=by omega
 have HX:=aS hx;have hsl:=aS ((swapQ_len xs 0 n).trans hx);have HRL:=aS hrl;clear hx hrl
 go_enter Try.func46,Try.ntmps46
 go_wp2_with (first | (go_at_call 45;(with_reducible refine (len_calls H.out).mono ?_);rintro en w1 ⟨rfl,h2,f2,_⟩;have H1:=aS h2;have F1:=aS f2;have hmS:=hm61 w1 gq _ h2.cell;clear h2 f2) | (go_at_call 117;(refine (swap_calls w0 _ w0.heap.size g c (fun k=>k≠gq) xs 0 n (by have:=HX.out;omega) (by have:=HX.out;omega) H1.out.row).mono ?_);rintro e w2 ⟨rfl,hr,hg⟩;obtain ⟨h6,f6⟩:=H1.out.swap hr hg;have H2:=aS h6;have F2:=aS (F1.out.trans f6);clear hr hg h6 f6) | (go_at_call 68;(refine (down_calls k n 0 (by have:=hsl.out;omega) (by have:=hsl.out;have:=HX.out;omega) (Nat.zero_le _) H2.out A0.out).mono ?_);rintro en w3 ⟨rfl,v3,h3,f3⟩;have H3:=aS h3;have F3:=aS (F2.out.trans f3);have hmP:=hm59 w3 gq;clear h3 f3) | (go_at_call 115;(with_reducible refine (pop_calls (by have:=HRL.out;omega) H3.out).mono ?_);rintro en w4 ⟨⟨u,rfl⟩,v4,h4,f4⟩;have H4:=aS h4;have F4:=aS (F3.out.trans f4);clear h4 f4))
 go_ret
 have h4:=H4.out;rw [HRL.out] at h4;exact ⟨⟨_,rfl⟩,_,h4,F4.out⟩
theorem upF_length (k:Nat):∀ (m:Nat) (xs:List S84) (j:Nat) (r:List S84),upF k m xs j=some r→r.length=xs.length
 | 0,_,_,_,h=>by cases h
 | m+1,xs,j,r,h=>by
  unfold upF at h
  split at h
  ·
   rw [←Option.some.inj h]
  ·
   obtain ⟨b,_,h⟩:=Option.bind_eq_some_iff.1 h
   split at h
   ·
    rw [upF_length k m _ _ _ h,swapQ_len]
   ·
    rw [←Option.some.inj h]
theorem downF_length (k n:Nat):∀ (m:Nat) (xs:List S84) (i:Nat) (r:List S84) (q:Nat),downF k n m xs i=some (r,q)→r.length=xs.length
 | 0,_,_,_,_,h=>by cases h
 | m+1,xs,i,r,q,h=>by
  unfold downF at h
  split at h
  ·
   have:=Option.some.inj h
   simp only [Prod.mk.injEq] at this
   rw [←this.1]
  ·
   obtain ⟨b,_,h⟩:=Option.bind_eq_some_iff.1 h;obtain ⟨c,_,h⟩:=Option.bind_eq_some_iff.1 h
   split at h
   ·
    rw [downF_length k n m _ _ _ _ h,swapQ_len]
   ·
    have:=Option.some.inj h
    simp only [Prod.mk.injEq] at this
    rw [←this.1]
def all1 (k:Nat):List (List S26)→Nat→List S84→Option (List S84)
 | [],_,q=>some q
 | l :: ls,i,q=>if l.length=0 then all1 k ls (i+1) q else if q.length≤1000000 then (upF k k (q++[⟨l,(i:Int)⟩]) q.length).bind fun q'=>all1 k ls (i+1) q' else none
def allTake (k:Nat) (out:List S26) (c:S26):Option Bool:=if out.length=0 then some true else (cell_Compare.f k (rd_T26 out ((out.length:Int) - 1)).f0 (rd_T26 out ((out.length:Int) - 1)).f1 (rd_T26 out ((out.length:Int) - 1)).f2 (rd_T26 out ((out.length:Int) - 1)).f3 (rd_T26 out ((out.length:Int) - 1)).f4 c.f0 c.f1 c.f2 c.f3 c.f4).bind fun t=>some (!(t == 0))
def allNext (k:Nat) (s:S84) (q:List S84):Option (List S84):=if s.f0.length=1 then (downF k q.length k (swapQ ((⟨s.f0.drop 1,s.f1⟩:S84) :: q) 0 q.length) 0).bind fun r=>some (r.1.take q.length) else (downF k (q.length+1) k ((⟨s.f0.drop 1,s.f1⟩:S84) :: q) 0).bind fun r=>some r.1
def all2 (k:Nat):Nat→List S84→List S26→Option (List S26)
 | 0,_,_=>none
 | _+1,[],out=>some out
 | m+1,s :: q,out=>if 0<s.f0.length∧out.length≤1000000000∧q.length≤1000000 then (allTake k out (rd_T26 s.f0 0)).bind fun b=>(allNext k s q).bind fun q'=>all2 k m q' (if b=true then out++[rd_T26 s.f0 0] else out) else none
def merge_All.f (k:Nat) (l0:List (List S26)):Option (List S26):=if k=0 then none else (all1 k l0 0 []).bind fun q=>all2 k k q []
theorem QR.head {w0 w:World} {gq:Nat} {v:Value} {s:S84} {q:List S84} (h:QR w0 gq w v (s :: q)) (hs:0<s.f0.length):∃ g c cl ad cs,v = .slice (some ⟨g,0,none⟩) (q.length+1) c∧q.length+1≤c∧w.heap[g]? = some (.cells cl 84 (0,0))∧cl[0]? = some (.slice (some ad) s.f0.length cs)∧s.f0.length≤cs∧k26.C w0 (some ad) s.f0.length s.f0∧w0.cell? ad=some (.string (rd_T26 s.f0 0).f0)∧w0.cell? ⟨ad.block,ad.off+1,none⟩=some (.string (rd_T26 s.f0 0).f1)∧w0.cell? ⟨ad.block,ad.off+2,none⟩=some (.int .i64 (rd_T26 s.f0 0).f2)∧w0.cell? ⟨ad.block,ad.off+3,none⟩=some (.string (rd_T26 s.f0 0).f3)∧w0.cell? ⟨ad.block,ad.off+4,none⟩=some (.bool (rd_T26 s.f0 0).f4):=by
 obtain ⟨g,c,rfl,_,_⟩:=Kd.R_form h.row (by simp);obtain ⟨cs,hcl,hM,hc,hf⟩:=Kd.R_elem h.row z84 (0:Int) (by omega) (by simp);obtain ⟨A,a,rfl,hl,hC⟩:=kQ_open hM;have he:(s :: q).getD (0:Int).toNat z84=s:=rfl;rw [he] at hM hc hl hC;obtain ⟨ad,hA,h0,h1,h2,h3,h4⟩:=at_T26 hC 0 (by omega) (by omega);subst hA;obtain ⟨cl,hcl⟩:=Kd.R_typed h.row g rfl;have hx:=hc 0 _ rfl;have hy:=blk_cell hcl 0;have hz:w.cell? ⟨g,0,none⟩=some (.slice (some ad) s.f0.length a):=hx;exact ⟨g,c,cl,ad,a,rfl,(Kd.R_reads' h.row).2.1,hcl,hy.symm.trans hz,hl,hC,h0,h1,h2,h3,h4⟩
theorem cut_one {w0:World} {ad:Addr} {cs:Nat} {l d:List S26} (hd:l.drop 1=d) (hC:k26.C w0 (some ad) l.length l) (hl:0<l.length) (hc:l.length≤cs):∃ A',(∀ W,(Instr.slice 24 (.slice (some ad) l.length cs) (some (.int .i64 1)) none none).run Try.prog W = .ok (.slice A' d.length (cs - 1)) W)∧k26.C w0 A' d.length d∧d.length≤cs - 1:=by
 obtain ⟨i0,hi0,_,hsz,_⟩:=info_parts info26
 have hdl:d.length=l.length - 1:=by rw [←hd,lld]
 have h:=cut_from (P:=Try.prog) 24 26 .i64 Try.underlying24 hi0 5 hsz (some ad) l.length cs 1 (by omega) (by omega);have hC2:=Kd.C_drop (m:=1) hC hl hc;rw [hd] at hC2;rw [hdl];rw [hdl] at hC2;exact ⟨_,h,hC2,by omega⟩
theorem out_fr {w w1:World} {base:Nat} {v:Value} {xs:List S26} (h:Kd.R k26 26 w base (fun _=>True) v xs) (f:Fr w w1):Kd.R k26 26 w1 base (fun _=>True) v xs:=by
 refine Kd.R_mono (Kd.R_move (Kd.R_bound h) (fun k hk=>?_)) (fun _ _=>trivial);obtain ⟨_,_,hlt,q,hq,cells,hc⟩:=hk
 have hq:q=26:=by simpa [k26,Kd.iso,Kd.pair,Kd.string,Kd.int,Kd.bool,Kd.scalar] using hq
 subst hq;rw [f.keep k _ hc ⟨fun cells' he=>by simp at he,fun cells' he=>by simp at he⟩,hc]
theorem QR.other {w0 w w1:World} {gq base:Nat} {v u:Value} {xs:List S84} {out:List S26} {ok:Nat→Prop} (h:QR w0 gq w v xs) (hr:Kd.R k26 26 w base ok u out) (hg:w.grownBy w1 u.ownBlock) (hb:Below w0.heap.size w0 w1):QR w0 gq w1 v xs:=
 ⟨blk_grown h.box hg (Kd.R_ne hr h.box (by decide)),Kd.R_over' h.row (Kd.R_typed hr) (fun q hq=>by have h4:q=84:=(by simpa [kQ,Kd.iso,Kd.pair,Kd.fixed,Kd.int,Kd.scalar] using hq);subst h4;decide) hg,h.ge,hb⟩
theorem QR.cut {w0 w:World} {gq g n c:Nat} {s:S84} {q:List S84} (h:QR w0 gq w (.slice (some ⟨g,0,none⟩) n c) (s :: q)) {A:Option Addr} {c':Nat} {l:List S26} (hl:l.length≤c') (hC:k26.C w0 A l.length l) :
  QR w0 gq (w.setCell ⟨g,0,none⟩ (.slice A l.length c')) (.slice (some ⟨g,0,none⟩) n c) ((⟨l,s.f1⟩:S84) :: q)∧Fr w (w.setCell ⟨g,0,none⟩ (.slice A l.length c')):=by
 have hn:=(Kd.R_reads' h.row).1;obtain ⟨cs,hcl,hM,hc,hf⟩:=Kd.R_elem h.row z84 (0:Int) (by omega) (by rw [hn];simp);obtain ⟨A1,a1,rfl,hl1,hC1⟩:=kQ_open hM;have hne:gq≠g:=(Kd.R_typed h.row g rfl).elim (fun cells hcells=>blk_ne h.box hcells (by decide));obtain ⟨hr,hg⟩:=Kd.R_seg (j:=0) (seg:=[.slice A l.length c']) h.row (0:Int) (by omega) (by rw [hn];simp) hcl hc (by rw [←hcl];simp) (x':=(⟨l,s.f1⟩:S84)) (okp:=fun k=>k≠gq∧k≠g) (by exact kQ_mk w0 _ _ _ (⟨l,s.f1⟩:S84) hl hC) (fun _ h=>h);have hr2:(kQ w0).R 84 (w.setCell ⟨g,0,none⟩ (.slice A l.length c')) w0.heap.size (fun k=>k≠gq) (.slice (some ⟨g,0,none⟩) n c) ((⟨l,s.f1⟩:S84) :: q):=hr;have hg2:w.grownBy (w.setCell ⟨g,0,none⟩ (.slice A l.length c')) (some g):=hg;refine ⟨⟨blk_far h.box (p:=⟨g,0,none⟩) hne _,hr2,h.ge,h.bel.setCell (Kd.R_base h.row g rfl) _⟩,(Fr.refl w).grown h.row hg2⟩
theorem merge_All.calls (k:Nat) (A0:Option Addr) (c0:Nat) (l0:List (List S26)) (r:List S26) (w:World) (hr0:Kd.C (Kd.slice 26 k26) w A0 l0.length l0) (hc0:l0.length≤c0) (h:merge_All.f k l0=some r) :
  Calls Try.prog 29 #[.slice A0 l0.length c0] w fun e w'=>∃ v0_:Value,e = .returned (v0_)∧Kd.R k26 26 w' w.heap.size (fun _=>True) v0_ r∧Below w.heap.size w w':=by
 have hu35:=Try.underlying26;have hu27:=Try.underlying24;have hu41:=Try.underlying81;have hu44:=Try.underlying84;have hu39:=Try.underlying79
 unfold merge_All.f at h
 split at h
 ·
  cases h
 rename_i hk
 obtain ⟨q0,h1,h2⟩:=Option.bind_eq_some_iff.1 h;have H1:=aS h1;have H2:=aS h2;have HC:=aS hr0;have HL:=aS (Kd.C_max hr0);clear h h1 h2 hr0 hc0
 go_enter Try.func29,Try.ntmps29
 go_wp2_with (first | ((with_reducible refine gate_dst (N:=9) rfl ?_);refine Kd.R_lit (kQ w) (w0:=w) w.heap.size 84 ?hg (N:=9) ?hd (xs:=([]:List S84)) (inner:=[]) (ok:=fun _=>True) (okp:=fun _=>True) ?hr ?hp (fun _ hk=>hk) trivial (Below.refl _ _) (Nat.le_refl _) (by simp) ?_;(case hd=>rfl);(case hg=>rfl);(case hr=>first | (go_simp;done) | (go_simp;rfl));(case hp=>exact Reps.none _ _);intro v9 w1 ho hb hg_ hnew_;obtain ⟨A9,c9,rfl⟩:=Kd.R_slice ho;have O9:=aS ho;have B9:=aS hb;clear ho hb hg_ hnew_) | ((with_reducible refine gate_dst (N:=10) rfl ?_);refine box_event ?hg (N:=10) ?hd (cs:=#[.slice A9 0 c9]) (t:=81) ?hr ?_;(case hd=>rfl);(case hg=>rfl);(case hr=>(first | (go_simp;done) | (go_simp;rfl)));intro gq hg w2 hb hbl;have G10:=aS hg;have B10:=aS hb;have L10:=aS hbl;clear hg hb hbl))
 have hgq:w1.heap.size≤gq:=by rw [G10.out];exact Nat.le_refl _
 have HQ:Aside0 (QR w gq w2 (.slice A9 0 c9) []):=⟨⟨B10.out,Kd.R_below (Kd.R_mono (Kd.R_bound O9.out) (fun k hk=>by have:=hk.2.2.1;omega)) L10.out,Nat.le_trans B9.out.size hgq,below_step B9.out L10.out⟩⟩;clear O9 B9 G10 B10 L10
 go_loopw [13] (fun v13 w3=>∃ (i:Nat) (v:Value) (xs:List S84),v13 = .int .i64 (i:Int)∧Aside0 (i≤l0.length)∧Aside0 (QR w gq w3 v xs)∧Aside0 (all1 k (l0.drop i) i xs=some q0)) (fun i _=>l0.length - (intOf i).toNat)
 case atStart=>exact ⟨0,_,[],rfl,⟨Nat.zero_le _⟩,HQ,H1⟩
 case round=>
  clear HQ H1;obtain ⟨i,v,xs,rfl,hi,HQ,H1⟩:=hrel;have hil:=hi.out;have hmax:=HL.out;have h1:=H1.out;clear H1
  by_cases hlt:i<l0.length
  ·
   rw [List.drop_eq_getElem_cons hlt] at h1
   unfold all1 at h1
   obtain ⟨ad,A1,c1,rfl,hcell,hl1,hC1⟩:=at_L8 HC.out (i:Int) (by omega) (by omega);rw [Int.toNat_natCast] at hcell
   have hrd:rd_L8 l0 (i:Int)=l0[i]:=by
    show l0.getD (i:Int).toNat _=_
    rw [Int.toNat_natCast,List.getD_eq_getElem?_getD,List.getElem?_eq_getElem hlt]
    rfl
   rw [hrd] at hcell hl1 hC1
   generalize l0[i]=l at *
   have hcw:wr.cell? (ad.add i)=some (.slice A1 l.length c1):=(HQ.out.bel.cell (wbl w _ hcell)).trans hcell;have hc1:=aS hC1;clear hC1 hcell hrd
   by_cases hl0:l.length=0
   ·
    rw [if_pos hl0] at h1;have H1:=aS h1;clear h1
    have hlz:¬ (0:Int)<(l.length:Int):=by omega
    go_wp2_with (fail)
    go_roundw
    case rel=>exact ⟨i+1,v,xs,by go_num,⟨by omega⟩,HQ,H1⟩
    case measure=>simp [intOf];omega
   ·
    rw [if_neg hl0] at h1
    split at h1
    ·
     rename_i hxs
     obtain ⟨q',hu,h1⟩:=Option.bind_eq_some_iff.1 h1;have H1:=aS h1;have HU:=aS hu;clear h1 hu
     have hlz:(0:Int)<(l.length:Int):=by omega
     go_wp2_with (first | (go_at_call 44;(with_reducible refine (hpush_calls k (⟨l,(i:Int)⟩:S84) hl1 hc1.out hxs HQ.out HU.out).mono ?_);rintro en w5 ⟨rfl,v5,h5,f5⟩;have H5:=aS h5;clear h5 f5))
     go_roundw
     case rel=>exact ⟨i+1,_,_,by go_num,⟨by omega⟩,H5,H1⟩
     case measure=>simp [intOf];omega
    ·
     cases h1
  ·
   obtain rfl:i=l0.length:=by omega
   rw [List.drop_length] at h1
   unfold all1 at h1
   obtain rfl:=Option.some.inj h1
   clear h1
   go_wp2
   have HO:Aside0 (Kd.R k26 26 wr w.heap.size (fun _=>True) (.slice none 0 0) []):=⟨Kd.R_nil _ _ _ _ _⟩
   go_loopg [6] k (fun kq v6 w3=>∃ (v:Value) (xs:List S84) (out:List S26),Aside0 (QR w gq w3 v xs)∧Aside0 (Kd.R k26 26 w3 w.heap.size (fun _=>True) v6 out)∧Aside0 (all2 k kq xs out=some r))
   case atStart=>exact ⟨_,_,[],HQ,HO,H2⟩
   case round=>
    clear HQ HO H2;obtain ⟨v,xs,out,HQ,HO,H2⟩:=hrel;have h2:=H2.out;clear H2
    cases gk with
    | zero=>cases h2
    | succ m=>
     cases xs with
     | nil=>
      unfold all2 at h2
      obtain rfl:=Option.some.inj h2
      have hcv:=HQ.out.cell
      go_wp2_with (first | (go_at_call 45;(with_reducible refine (len_calls HQ.out).mono ?_);rintro en w5 ⟨rfl,h5,f5,b5⟩;have H5:=aS h5;have O5:=aS (out_fr HO.out f5);clear h5 f5 b5))
      go_ret
      exact ⟨_,rfl,O5.out,H5.out.bel⟩
     | cons s q=>
      unfold all2 at h2
      split at h2
      rotate_left
      ·
       cases h2
      rename_i hif
      obtain ⟨hs,hout,hq⟩:=hif;obtain ⟨b,hb,h2⟩:=Option.bind_eq_some_iff.1 h2;obtain ⟨q',hn,h2⟩:=Option.bind_eq_some_iff.1 h2;obtain ⟨A6,c6,rfl⟩:=Kd.R_slice HO.out;obtain ⟨g,cq,cl,ad,cs,rfl,hc1,bg,hcl,hcs,hC,x0,x1,x2,x3,x4⟩:=HQ.out.head hs;have hcv:=HQ.out.cell;have HH2:=aS h2;have HN:=aS hn;have HT:=aS hb;have BG:=aS bg;have HC1:=aS hC
      generalize rd_T26 s.f0 0=c at *
      clear h2 hn hb bg hC
      go_upto_region 12 with (first | (go_at_call 45;(with_reducible refine (len_calls HQ.out).mono ?_);rintro en w5 ⟨rfl,h5,f5,b5⟩;have H5:=aS h5;have O5:=aS (out_fr HO.out f5);have BG5:=aS (blk_below BG.out b5);have hc5:=h5.cell;have hg0:=(blk_cell BG5.out 0).trans hcl;have y0:=(h5.bel.cell (wbl w _ x0)).trans x0;have y1:=(h5.bel.cell (wbl w _ x1)).trans x1;have y2:=(h5.bel.cell (wbl w _ x2)).trans x2;have y3:=(h5.bel.cell (wbl w _ x3)).trans x3;have y4:=(h5.bel.cell (wbl w _ x4)).trans x4;clear h5 f5 b5))
      have B7:=aS (blk_new w5 (.cells #[.string c.f0,.string c.f1,.int .i64 c.f2,.string c.f3,.bool c.f4] 26));have l7:Below w5.heap.size w5 (w5.alloc (.cells #[.string c.f0,.string c.f1,.int .i64 c.f2,.string c.f3,.bool c.f4] 26)):=bal (Below.refl _ _) _;have H7:=aS (H5.out.below l7);have O7:=aS (Kd.R_below O5.out l7);have BG7:=aS (blk_below BG5.out l7);clear H5 O5 BG5 l7 hc5 hg0 y0 y1 y2 y3 y4
      generalize hg8:w5.heap.size=g8 at *
      generalize w5.alloc (.cells #[.string c.f0,.string c.f1,.int .i64 c.f2,.string c.f3,.bool c.f4] 26)=w7 at *
      clear hg8
      obtain ⟨d,hd⟩:∃ d,s.f0.drop 1=d:=⟨_,rfl⟩
      obtain ⟨A',hcut,hcd_,hcd⟩:=cut_one hd HC1.out hs hcs;have hCd:=aS hcd_
      have hdl:d.length+1=s.f0.length:=by rw [←hd,lld];omega
      unfold allNext at HN
      rw [hd] at HN;have h8:=H7.out.below (below_drew (Below.refl _ _));have H8:=aS h8;have O8:=aS (Kd.R_drew O7.out);have BG8:=aS (blk_drew BG7.out);have B8:=aS (blk_drew B7.out);clear hcd_ hd h8 H7 O7 BG7 B7 BG HQ HO HC1 x0 x1 x2 x3 x4 hcv;have ht:=HT.out;clear HT
      unfold allTake at ht
      by_cases ho0:out.length=0
      ·
       rw [if_pos ho0] at ht
       obtain rfl:=Option.some.inj ht
       rw [if_pos rfl] at HH2
       have hoz:((out.length:Int) == 0)=true:=by simpa using ho0
       have hoz2:(out.length:Int)=0:=by omega
       clear ht;refine start_ (n:=14) (ds:=[]) (S:=fun w'=>True) (bA 14 0) rfl rfl rfl trivial (fun hHeld=>?_)
       generalize w7.drew=w8 at H8 O8 BG8 B8 hHeld ⊢
       clear hHeld;refine pure_ (i:=0) (N:=(some 44)) (v:=?_) (a':=?_) (bA 14 1) rfl rfl (by kernel_rfl) (fun _ _ _ h=>h) (Or.inl ⟨by rfl,?_⟩) ?_ ?_
       rotate_left
       ·
        intro w'
        go_simp
        with_reducible rfl
       rotate_left
       ·
        simp only [Act.put,lsa,lsz,lss,i64_w,i32_w]
        rfl
       refine pure_ (i:=1) (N:=(some 45)) (v:=?_) (a':=?_) (bA 14 3) rfl rfl (by kernel_rfl) (fun _ _ _ h=>h) (Or.inl ⟨by rfl,?_⟩) ?_ ?_
       rotate_left
       ·
        intro w'
        go_simp
        with_reducible rfl
       rotate_left
       ·
        simp only [Act.put,lsa,lsz,lss,i64_w,i32_w]
        rfl
       refine pure_ (i:=2) (N:=(some 46)) (v:=.bool true) (a':=?pa2) (bA 14 7) rfl rfl (by kernel_rfl) (fun _ _ _ h=>h) (Or.inl ⟨by rfl,?py2⟩) ?pb2 ?ph2
       case py2=>
        intro w'
        go_simp
       case pb2=>
        simp only [Act.put,lsa,lsz,lss,i64_w,i32_w]
        rfl
       refine pure_ (i:=3) (N:=(some 47)) (v:=?_) (a':=?_) (bA 14 15) rfl rfl (by kernel_rfl) (fun _ _ _ h=>h) (Or.inl ⟨by rfl,?_⟩) ?_ ?_
       rotate_left
       ·
        intro w'
        go_simp
        with_reducible rfl
       rotate_left
       ·
        simp only [Act.put,lsa,lsz,lss,i64_w,i32_w]
        rfl
       refine pure_ (i:=4) (N:=(some 48)) (v:=undef) (a':=?_) (bA 14 31) rfl rfl (by kernel_rfl) (fun _ _ _ h=>h) (Or.inr ⟨by rfl,rfl⟩) ?_ ?_
       rotate_left
       ·
        simp only [Act.put,lsa,lsz,lss,i64_w,i32_w]
        rfl
       refine pure_ (i:=5) (N:=(some 49)) (v:=undef) (a':=?_) (bA 14 63) rfl rfl (by kernel_rfl) (fun _ _ _ h=>h) (Or.inr ⟨by rfl,rfl⟩) ?_ ?_
       rotate_left
       ·
        simp only [Act.put,lsa,lsz,lss,i64_w,i32_w]
        rfl
       refine pure_ (i:=6) (N:=(some 50)) (v:=undef) (a':=?_) (bA 14 127) rfl rfl (by kernel_rfl) (fun _ _ _ h=>h) (Or.inr ⟨by rfl,rfl⟩) ?_ ?_
       rotate_left
       ·
        simp only [Act.put,lsa,lsz,lss,i64_w,i32_w]
        rfl
       refine pure_ (i:=7) (N:=(some 51)) (v:=undef) (a':=?_) (bA 14 255) rfl rfl (by kernel_rfl) (fun _ _ _ h=>h) (Or.inr ⟨by rfl,rfl⟩) ?_ ?_
       rotate_left
       ·
        simp only [Act.put,lsa,lsz,lss,i64_w,i32_w]
        rfl
       refine pure_ (i:=8) (N:=(some 52)) (v:=undef) (a':=?_) (bA 14 511) rfl rfl (by kernel_rfl) (fun _ _ _ h=>h) (Or.inr ⟨by rfl,rfl⟩) ?_ ?_
       rotate_left
       ·
        simp only [Act.put,lsa,lsz,lss,i64_w,i32_w]
        rfl
       refine pure_ (i:=9) (N:=(some 53)) (v:=undef) (a':=?_) (bA 14 1023) rfl rfl (by kernel_rfl) (fun _ _ _ h=>h) (Or.inr ⟨by rfl,rfl⟩) ?_ ?_
       rotate_left
       ·
        simp only [Act.put,lsa,lsz,lss,i64_w,i32_w]
        rfl
       refine pure_ (i:=10) (N:=(some 54)) (v:=undef) (a':=?_) (bA 14 2047) rfl rfl (by kernel_rfl) (fun _ _ _ h=>h) (Or.inr ⟨by rfl,rfl⟩) ?_ ?_
       rotate_left
       ·
        simp only [Act.put,lsa,lsz,lss,i64_w,i32_w]
        rfl
       refine pure_ (i:=11) (N:=(some 55)) (v:=undef) (a':=?_) (bA 14 4095) rfl rfl (by kernel_rfl) (fun _ _ _ h=>h) (Or.inr ⟨by rfl,rfl⟩) ?_ ?_
       rotate_left
       ·
        simp only [Act.put,lsa,lsz,lss,i64_w,i32_w]
        rfl
       refine pure_ (i:=12) (N:=(some 56)) (v:=undef) (a':=?_) (bA 14 8191) rfl rfl (by kernel_rfl) (fun _ _ _ h=>h) (Or.inr ⟨by rfl,rfl⟩) ?_ ?_
       rotate_left
       ·
        simp only [Act.put,lsa,lsz,lss,i64_w,i32_w]
        rfl
       refine pure_ (i:=13) (N:=(some 57)) (v:=.bool true) (a':=?pa13) (bA 14 16383) rfl rfl (by kernel_rfl) (fun _ _ _ h=>h) (Or.inl ⟨by rfl,?py13⟩) ?pb13 ?ph13
       case py13=>
        intro w'
        go_simp
       case pb13=>
        simp only [Act.put,lsa,lsz,lss,i64_w,i32_w]
        rfl
       refine done_ (by kernel_rfl) ?_;clear hoz hoz2 ho0;have z0:=(blk_cell B8.out 0).trans rfl;have z1:=(blk_cell B8.out 1).trans rfl;have z2:=(blk_cell B8.out 2).trans rfl;have z3:=(blk_cell B8.out 3).trans rfl;have z4:=(blk_cell B8.out 4).trans rfl;have xg:=(blk_cell BG8.out 0).trans hcl;have fz:=blk_frozen BG8.out 0
       go_upto_region 15 with (first | ((with_reducible refine gate_builtin (b:=.append) (xs:=#[.tmp 58,.tmp 60]) rfl ?_);at_builtin;(refine Kd.R_append k26 (w0:=w) w.heap.size rfl (.tmp 58) (.tmp 60) 24 26 (.agg #[(.string ⟨#[]⟩),(.string ⟨#[]⟩),(.int .i64 0),(.string ⟨#[]⟩),(.bool false)]) 64 rfl Try.underlying24 info26 rfl (by decide) (by omega) (.slice A6 out.length c6) out c [.string c.f0,.string c.f1,.int .i64 c.f2,.string c.f3,.bool c.f4] (fun _=>True) (fun _=>False) rfl rfl ?aP (fun _ hk=>hk.elim) ?aF ?aO ?aB ?aS ?aL ?_;(case aP=>exact k26_mkM _ _ _ c);(case aB=>exact H8.out.bel);(case aF=>exact (fun _ _=>trivial));(case aO=>exact O8.out);(case aS=>exact H8.out.bel.size);(case aL=>omega);intro v61 w9 ho hb hg hat;have n0:=aS (H8.out.other O8.out hg hb);have n1:=aS ho;have n2:=aS (blk_grown BG8.out hg (Kd.R_ne O8.out BG8.out (by decide)));clear H8 O8 BG8 B8 ho hb hg hat;have H8:=n0;have O8:=n1;have BG8:=n2;clear n0 n1 n2;have xg:=(blk_cell BG8.out 0).trans hcl;have fz:=blk_frozen BG8.out 0)))
       obtain ⟨h9,f9⟩:=H8.out.cut hcd hCd.out;have O9:=aS (out_fr O8.out f9);have hx9:=World.cell?_setCell_same _ ⟨g,0,none⟩ (.slice A' d.length (cs - 1)) xg;have H9:=aS h9;have hb9:=h9.cell;clear f9 h9 xg fz H8 O8 BG8
       generalize World.setCell _ ⟨g,0,none⟩ (.slice A' d.length (cs - 1))=w10 at H9 O9 hx9 hb9 ⊢
       by_cases hone:s.f0.length=1
       ·
        rw [if_pos hone] at HN
        have hz:(d.length:Int)=0:=by omega
        obtain ⟨⟨r1,r2⟩,hr1,hr2⟩:=Option.bind_eq_some_iff.1 HN.out
        obtain rfl:=Option.some.inj hr2
        have hrl:=downF_length _ _ _ _ _ _ _ hr1;rw [swapQ_len,List.length_cons] at hrl;have HD:=aS hr1;clear hr1 hr2
        go_wp2_with (first | (go_at_call 46;(with_reducible refine (hpop_calls k (by simp;omega) (by simp) H9.out HD.out hrl).mono ?_);rintro en w11 ⟨⟨u,rfl⟩,v11,h11,f11⟩;have H11:=aS h11;have O11:=aS (out_fr O9.out f11);clear h11 f11))
        go_roundg m
        case measure=>omega
        case rel=>exact ⟨_,_,_,H11,O11,HH2⟩
       ·
        rw [if_neg hone] at HN
        have hz:¬ (d.length:Int)=0:=by omega
        obtain ⟨⟨r1,r2⟩,hr1,hr2⟩:=Option.bind_eq_some_iff.1 HN.out
        obtain rfl:=Option.some.inj hr2
        have hrl:=downF_length _ _ _ _ _ _ _ hr1;rw [List.length_cons] at hrl;have HD:=aS hr1;clear hr1 hr2
        go_wp2_with (first | (go_at_call 47;(with_reducible refine (hfix_calls k hk (by simp;omega) (by simp) H9.out HD.out (by omega)).mono ?_);rintro en w11 ⟨rfl,v11,h11,f11⟩;have H11:=aS h11;have O11:=aS (out_fr O9.out f11);clear h11 f11))
        go_roundg m
        case measure=>omega
        case rel=>exact ⟨_,_,_,H11,O11,HH2⟩
      ·
       rw [if_neg ho0] at ht;obtain ⟨t,hcm,ht⟩:=Option.bind_eq_some_iff.1 ht
       obtain rfl:=Option.some.inj ht
       obtain ⟨ji,hji⟩:∃ ji,(out.length:Int) - 1=ji:=⟨_,rfl⟩
       rw [hji] at hcm;have HCM:=aS hcm
       have hoz:((out.length:Int) == 0)=false:=by simpa using ho0
       have hoz2:¬ (out.length:Int)=0:=by omega
       have hj0:=eq_true (show (0:Int)≤ji by omega);have hj1:=eq_true (show ji<(out.length:Int) by omega)
       have hwj:IntKind.i64.wrap ji=ji:=by rw [i64_w];unfold wrap64;omega
       obtain ⟨ad2,hA6,u0,u1,u2,u3,u4⟩:=at_T26 (Kd.R_reads' O8.out).2.2 ji (by omega) (by omega);subst hA6;clear hcm ht
       by_cases htz:(t == 0)=true
       ·
        have hb_:(!(t == 0))=false:=by rw [htz];rfl
        rw [hb_] at HH2;rw [if_neg (by decide)] at HH2
        have htv:t=0:=by simpa using htz
        refine start_ (n:=14) (ds:=[]) (S:=fun w'=>w'.cell? ⟨g8,0,none⟩=some (.string c.f0)∧w'.cell? ⟨g8,1,none⟩=some (.string c.f1)∧w'.cell? ⟨g8,2,none⟩=some (.int .i64 c.f2)∧w'.cell? ⟨g8,3,none⟩=some (.string c.f3)∧w'.cell? ⟨g8,4,none⟩=some (.bool c.f4)∧w'.cell? (ad2.add (ji.toNat*5))=some (.string (rd_T26 out ji).f0)∧w'.cell? ⟨(ad2.add (ji.toNat*5)).block,(ad2.add (ji.toNat*5)).off+1,none⟩=some (.string (rd_T26 out ji).f1)∧w'.cell? ⟨(ad2.add (ji.toNat*5)).block,(ad2.add (ji.toNat*5)).off+2,none⟩=some (.int .i64 (rd_T26 out ji).f2)∧w'.cell? ⟨(ad2.add (ji.toNat*5)).block,(ad2.add (ji.toNat*5)).off+3,none⟩=some (.string (rd_T26 out ji).f3)∧w'.cell? ⟨(ad2.add (ji.toNat*5)).block,(ad2.add (ji.toNat*5)).off+4,none⟩=some (.bool (rd_T26 out ji).f4)) (bA 14 0) rfl rfl rfl ⟨(blk_cell B8.out 0).trans rfl,(blk_cell B8.out 1).trans rfl,(blk_cell B8.out 2).trans rfl,(blk_cell B8.out 3).trans rfl,(blk_cell B8.out 4).trans rfl,u0,u1,u2,u3,u4⟩ (fun hHeld=>?_)
        generalize w7.drew=w8 at H8 O8 BG8 B8 hHeld u0 u1 u2 u3 u4 ⊢
        have HS:=aS hHeld;refine pure_ (i:=0) (N:=(some 44)) (v:=?_) (a':=?_) (bA 14 1) rfl rfl (by kernel_rfl) (fun _ _ _ h=>h) (Or.inl ⟨by rfl,?_⟩) ?_ ?_
        rotate_left
        ·
         intro w'
         go_simp
         with_reducible rfl
        rotate_left
        ·
         simp only [Act.put,lsa,lsz,lss,i64_w,i32_w]
         rfl
        refine pure_ (i:=1) (N:=(some 45)) (v:=?_) (a':=?_) (bA 14 3) rfl rfl (by kernel_rfl) (fun _ _ _ h=>h) (Or.inl ⟨by rfl,?_⟩) ?_ ?_
        rotate_left
        ·
         intro w'
         go_simp
         with_reducible rfl
        rotate_left
        ·
         simp only [Act.put,lsa,lsz,lss,i64_w,i32_w]
         rfl
        refine pure_ (i:=2) (N:=(some 46)) (v:=.bool false) (a':=?pa2f) (bA 14 7) rfl rfl (by kernel_rfl) (fun _ _ _ h=>h) (Or.inl ⟨by rfl,?py2f⟩) ?pb2f ?ph2f
        case py2f=>
         intro w'
         go_simp
        case pb2f=>
         simp only [Act.put,lsa,lsz,lss,i64_w,i32_w]
         rfl
        refine pure_ (i:=3) (N:=(some 47)) (v:=?_) (a':=?_) (bA 14 15) rfl rfl (by kernel_rfl) (fun _ _ _ h=>h) (Or.inl ⟨by rfl,?_⟩) ?_ ?_
        rotate_left
        ·
         intro w'
         go_simp
         with_reducible rfl
        rotate_left
        ·
         simp only [Act.put,lsa,lsz,lss,i64_w,i32_w]
         rfl
        refine pure_ (i:=4) (N:=(some 48)) (v:=?_) (a':=?_) (bA 14 31) rfl rfl (by kernel_rfl) (fun _ _ _ h=>h) (Or.inl ⟨by rfl,?_⟩) ?_ ?_
        rotate_left
        ·
         intro w'
         go_simp
         with_reducible rfl
        rotate_left
        ·
         simp only [Act.put,lsa,lsz,lss,i64_w,i32_w]
         rfl
        refine pure_ (i:=5) (N:=(some 49)) (v:=?_) (a':=?_) (bA 14 63) rfl rfl (by kernel_rfl) (fun _ _ _ h=>h) (Or.inl ⟨by rfl,?_⟩) ?_ ?_
        rotate_left
        ·
         intro w'
         go_simp
         with_reducible rfl
        rotate_left
        ·
         simp only [Act.put,lsa,lsz,lss,i64_w,i32_w]
         rfl
        refine pure_ (i:=6) (N:=(some 50)) (v:=?_) (a':=?_) (bA 14 127) rfl rfl (by kernel_rfl) (fun _ _ _ h=>h) (Or.inl ⟨by rfl,?_⟩) ?_ ?_
        rotate_left
        ·
         intro w'
         go_simp
         with_reducible rfl
        rotate_left
        ·
         simp only [Act.put,lsa,lsz,lss,i64_w,i32_w]
         rfl
        refine pure_ (i:=7) (N:=(some 51)) (v:=.int .i64 ji) (a':=?pa7f) (bA 14 255) rfl rfl (by kernel_rfl) (fun _ _ _ h=>h) (Or.inl ⟨by rfl,?py7f⟩) ?pb7f ?ph7f
        case py7f=>
         intro w'
         go_simp
        case pb7f=>
         simp only [Act.put,lsa,lsz,lss,i64_w,i32_w]
         rfl
        refine pure_ (i:=8) (N:=(some 52)) (v:=?_) (a':=?_) (bA 14 511) rfl rfl (by kernel_rfl) (fun _ _ _ h=>h) (Or.inl ⟨by rfl,?_⟩) ?_ ?_
        rotate_left
        ·
         intro w'
         go_simp
         with_reducible rfl
        rotate_left
        ·
         simp only [Act.put,lsa,lsz,lss,i64_w,i32_w]
         rfl
        refine take_ (i:=9) (N:=(some 53)) (v:=.agg #[.string (rd_T26 out ji).f0,.string (rd_T26 out ji).f1,.int .i64 (rd_T26 out ji).f2,.string (rd_T26 out ji).f3,.bool (rd_T26 out ji).f4]) (a':=?a9f) (bA 14 1023) rfl rfl (by kernel_rfl) (fun _ _ _ h=>h) ?hy9f hHeld ?ha9f ?hh9f
        case hy9f=>exact Or.inl ⟨by rfl,fun w' hw'=>by obtain ⟨s0,s1,s2,s3,s4,s5,s6,s7,s8,s9⟩:=hw';go_simp⟩
        case ha9f=>
         simp only [Act.put,lsa,lsz,lss,i64_w,i32_w]
         rfl
        refine take_ (i:=10) (N:=(some 54)) (v:=.agg #[.string c.f0,.string c.f1,.int .i64 c.f2,.string c.f3,.bool c.f4]) (a':=?a10f) (bA 14 2047) rfl rfl (by kernel_rfl) (fun _ _ _ h=>h) ?hy10f hHeld ?ha10f ?hh10f
        case hy10f=>exact Or.inl ⟨by rfl,fun w' hw'=>by obtain ⟨s0,s1,s2,s3,s4,s5,s6,s7,s8,s9⟩:=hw';go_simp⟩
        case ha10f=>
         simp only [Act.put,lsa,lsz,lss,i64_w,i32_w]
         rfl
        refine one_ (i:=11) (N:=(some 55)) (bA 14 4095) rfl rfl (by kernel_rfl) (by decide) (fun K hK=>?_);refine goes_ Try.func35 (by kernel_rfl) rfl #[.agg #[.string (rd_T26 out ji).f0,.string (rd_T26 out ji).f1,.int .i64 (rd_T26 out ji).f2,.string (rd_T26 out ji).f3,.bool (rd_T26 out ji).f4],.agg #[.string c.f0,.string c.f1,.int .i64 c.f2,.string c.f3,.bool c.f4]] (by rfl) rfl rfl agn ?_
        with_reducible refine (cell_Compare.calls k _ _ _ _ _ _ _ _ _ _ t _ HCM.out).mono ?_
        rintro e w9 ⟨rfl,hb⟩
        refine ⟨_,rfl,?_⟩;have n0:=aS (H8.out.below hb);have n1:=aS (Kd.R_below O8.out hb);have n2:=aS (blk_below BG8.out hb);have n3:=aS (blk_below B8.out hb);obtain ⟨s0,s1,s2,s3,s4,s5,s6,s7,s8,s9⟩:=HS.out;have hS9:=aS (show (fun w'=>w'.cell? ⟨g8,0,none⟩=some (.string c.f0)∧w'.cell? ⟨g8,1,none⟩=some (.string c.f1)∧w'.cell? ⟨g8,2,none⟩=some (.int .i64 c.f2)∧w'.cell? ⟨g8,3,none⟩=some (.string c.f3)∧w'.cell? ⟨g8,4,none⟩=some (.bool c.f4)∧w'.cell? (ad2.add (ji.toNat*5))=some (.string (rd_T26 out ji).f0)∧w'.cell? ⟨(ad2.add (ji.toNat*5)).block,(ad2.add (ji.toNat*5)).off+1,none⟩=some (.string (rd_T26 out ji).f1)∧w'.cell? ⟨(ad2.add (ji.toNat*5)).block,(ad2.add (ji.toNat*5)).off+2,none⟩=some (.int .i64 (rd_T26 out ji).f2)∧w'.cell? ⟨(ad2.add (ji.toNat*5)).block,(ad2.add (ji.toNat*5)).off+3,none⟩=some (.string (rd_T26 out ji).f3)∧w'.cell? ⟨(ad2.add (ji.toNat*5)).block,(ad2.add (ji.toNat*5)).off+4,none⟩=some (.bool (rd_T26 out ji).f4)) w9 from ⟨(blk_cell n3.out 0).trans rfl,(blk_cell n3.out 1).trans rfl,(blk_cell n3.out 2).trans rfl,(blk_cell n3.out 3).trans rfl,(blk_cell n3.out 4).trans rfl,(hb.cell (wbl _ _ s5)).trans s5,(hb.cell (wbl _ _ s6)).trans s6,(hb.cell (wbl _ _ s7)).trans s7,(hb.cell (wbl _ _ s8)).trans s8,(hb.cell (wbl _ _ s9)).trans s9⟩);clear H8 O8 BG8 B8 s0 s1 s2 s3 s4 s5 s6 s7 s8 s9 hb;have H8:=n0;have O8:=n1;have BG8:=n2;have B8:=n3;clear n0 n1 n2 n3;refine hK.out _ _ hS9.out (fun hHeld=>?_);clear hK K;refine nm 55 ?_;refine pure_ (i:=12) (N:=(some 56)) (v:=.bool false) (a':=?pa12f) (bA 14 8191) rfl rfl (by kernel_rfl) (fun _ _ _ h=>h) (Or.inl ⟨by rfl,?py12f⟩) ?pb12f ?ph12f
        case py12f=>
         intro w'
         go_simp
        case pb12f=>
         simp only [Act.put,lsa,lsz,lss,i64_w,i32_w]
         rfl
        refine pure_ (i:=13) (N:=(some 57)) (v:=.bool false) (a':=?pa13f) (bA 14 16383) rfl rfl (by kernel_rfl) (fun _ _ _ h=>h) (Or.inl ⟨by rfl,?py13f⟩) ?pb13f ?ph13f
        case py13f=>
         intro w'
         go_simp
        case pb13f=>
         simp only [Act.put,lsa,lsz,lss,i64_w,i32_w]
         rfl
        refine done_ (by kernel_rfl) ?_;clear hHeld hoz hoz2 ho0 hj0 hj1 hwj htz htv hb_ hS9;have xg:=(blk_cell BG8.out 0).trans hcl;have fz:=blk_frozen BG8.out 0
        go_upto_region 15 with (fail)
        obtain ⟨h9,f9⟩:=H8.out.cut hcd hCd.out;have O9:=aS (out_fr O8.out f9);have hx9:=World.cell?_setCell_same _ ⟨g,0,none⟩ (.slice A' d.length (cs - 1)) xg;have H9:=aS h9;have hb9:=h9.cell;clear f9 h9 xg fz H8 O8 BG8
        generalize World.setCell _ ⟨g,0,none⟩ (.slice A' d.length (cs - 1))=w10 at H9 O9 hx9 hb9 ⊢
        by_cases hone:s.f0.length=1
        ·
         rw [if_pos hone] at HN
         have hz:(d.length:Int)=0:=by omega
         obtain ⟨⟨r1,r2⟩,hr1,hr2⟩:=Option.bind_eq_some_iff.1 HN.out
         obtain rfl:=Option.some.inj hr2
         have hrl:=downF_length _ _ _ _ _ _ _ hr1;rw [swapQ_len,List.length_cons] at hrl;have HD:=aS hr1;clear hr1 hr2
         go_wp2_with (first | (go_at_call 46;(with_reducible refine (hpop_calls k (by simp;omega) (by simp) H9.out HD.out hrl).mono ?_);rintro en w11 ⟨⟨u,rfl⟩,v11,h11,f11⟩;have H11:=aS h11;have O11:=aS (out_fr O9.out f11);clear h11 f11))
         go_roundg m
         case measure=>omega
         case rel=>exact ⟨_,_,_,H11,O11,HH2⟩
        ·
         rw [if_neg hone] at HN
         have hz:¬ (d.length:Int)=0:=by omega
         obtain ⟨⟨r1,r2⟩,hr1,hr2⟩:=Option.bind_eq_some_iff.1 HN.out
         obtain rfl:=Option.some.inj hr2
         have hrl:=downF_length _ _ _ _ _ _ _ hr1;rw [List.length_cons] at hrl;have HD:=aS hr1;clear hr1 hr2
         go_wp2_with (first | (go_at_call 47;(with_reducible refine (hfix_calls k hk (by simp;omega) (by simp) H9.out HD.out (by omega)).mono ?_);rintro en w11 ⟨rfl,v11,h11,f11⟩;have H11:=aS h11;have O11:=aS (out_fr O9.out f11);clear h11 f11))
         go_roundg m
         case measure=>omega
         case rel=>exact ⟨_,_,_,H11,O11,HH2⟩
       ·
        have hb_:(!(t == 0))=true:=by simpa using htz
        rw [hb_] at HH2;rw [if_pos rfl] at HH2
        have htv:¬ t=0:=by simpa using htz
        refine start_ (n:=14) (ds:=[]) (S:=fun w'=>w'.cell? ⟨g8,0,none⟩=some (.string c.f0)∧w'.cell? ⟨g8,1,none⟩=some (.string c.f1)∧w'.cell? ⟨g8,2,none⟩=some (.int .i64 c.f2)∧w'.cell? ⟨g8,3,none⟩=some (.string c.f3)∧w'.cell? ⟨g8,4,none⟩=some (.bool c.f4)∧w'.cell? (ad2.add (ji.toNat*5))=some (.string (rd_T26 out ji).f0)∧w'.cell? ⟨(ad2.add (ji.toNat*5)).block,(ad2.add (ji.toNat*5)).off+1,none⟩=some (.string (rd_T26 out ji).f1)∧w'.cell? ⟨(ad2.add (ji.toNat*5)).block,(ad2.add (ji.toNat*5)).off+2,none⟩=some (.int .i64 (rd_T26 out ji).f2)∧w'.cell? ⟨(ad2.add (ji.toNat*5)).block,(ad2.add (ji.toNat*5)).off+3,none⟩=some (.string (rd_T26 out ji).f3)∧w'.cell? ⟨(ad2.add (ji.toNat*5)).block,(ad2.add (ji.toNat*5)).off+4,none⟩=some (.bool (rd_T26 out ji).f4)) (bA 14 0) rfl rfl rfl ⟨(blk_cell B8.out 0).trans rfl,(blk_cell B8.out 1).trans rfl,(blk_cell B8.out 2).trans rfl,(blk_cell B8.out 3).trans rfl,(blk_cell B8.out 4).trans rfl,u0,u1,u2,u3,u4⟩ (fun hHeld=>?_)
        generalize w7.drew=w8 at H8 O8 BG8 B8 hHeld u0 u1 u2 u3 u4 ⊢
        have HS:=aS hHeld;refine pure_ (i:=0) (N:=(some 44)) (v:=?_) (a':=?_) (bA 14 1) rfl rfl (by kernel_rfl) (fun _ _ _ h=>h) (Or.inl ⟨by rfl,?_⟩) ?_ ?_
        rotate_left
        ·
         intro w'
         go_simp
         with_reducible rfl
        rotate_left
        ·
         simp only [Act.put,lsa,lsz,lss,i64_w,i32_w]
         rfl
        refine pure_ (i:=1) (N:=(some 45)) (v:=?_) (a':=?_) (bA 14 3) rfl rfl (by kernel_rfl) (fun _ _ _ h=>h) (Or.inl ⟨by rfl,?_⟩) ?_ ?_
        rotate_left
        ·
         intro w'
         go_simp
         with_reducible rfl
        rotate_left
        ·
         simp only [Act.put,lsa,lsz,lss,i64_w,i32_w]
         rfl
        refine pure_ (i:=2) (N:=(some 46)) (v:=.bool false) (a':=?pa2t) (bA 14 7) rfl rfl (by kernel_rfl) (fun _ _ _ h=>h) (Or.inl ⟨by rfl,?py2t⟩) ?pb2t ?ph2t
        case py2t=>
         intro w'
         go_simp
        case pb2t=>
         simp only [Act.put,lsa,lsz,lss,i64_w,i32_w]
         rfl
        refine pure_ (i:=3) (N:=(some 47)) (v:=?_) (a':=?_) (bA 14 15) rfl rfl (by kernel_rfl) (fun _ _ _ h=>h) (Or.inl ⟨by rfl,?_⟩) ?_ ?_
        rotate_left
        ·
         intro w'
         go_simp
         with_reducible rfl
        rotate_left
        ·
         simp only [Act.put,lsa,lsz,lss,i64_w,i32_w]
         rfl
        refine pure_ (i:=4) (N:=(some 48)) (v:=?_) (a':=?_) (bA 14 31) rfl rfl (by kernel_rfl) (fun _ _ _ h=>h) (Or.inl ⟨by rfl,?_⟩) ?_ ?_
        rotate_left
        ·
         intro w'
         go_simp
         with_reducible rfl
        rotate_left
        ·
         simp only [Act.put,lsa,lsz,lss,i64_w,i32_w]
         rfl
        refine pure_ (i:=5) (N:=(some 49)) (v:=?_) (a':=?_) (bA 14 63) rfl rfl (by kernel_rfl) (fun _ _ _ h=>h) (Or.inl ⟨by rfl,?_⟩) ?_ ?_
        rotate_left
        ·
         intro w'
         go_simp
         with_reducible rfl
        rotate_left
        ·
         simp only [Act.put,lsa,lsz,lss,i64_w,i32_w]
         rfl
        refine pure_ (i:=6) (N:=(some 50)) (v:=?_) (a':=?_) (bA 14 127) rfl rfl (by kernel_rfl) (fun _ _ _ h=>h) (Or.inl ⟨by rfl,?_⟩) ?_ ?_
        rotate_left
        ·
         intro w'
         go_simp
         with_reducible rfl
        rotate_left
        ·
         simp only [Act.put,lsa,lsz,lss,i64_w,i32_w]
         rfl
        refine pure_ (i:=7) (N:=(some 51)) (v:=.int .i64 ji) (a':=?pa7t) (bA 14 255) rfl rfl (by kernel_rfl) (fun _ _ _ h=>h) (Or.inl ⟨by rfl,?py7t⟩) ?pb7t ?ph7t
        case py7t=>
         intro w'
         go_simp
        case pb7t=>
         simp only [Act.put,lsa,lsz,lss,i64_w,i32_w]
         rfl
        refine pure_ (i:=8) (N:=(some 52)) (v:=?_) (a':=?_) (bA 14 511) rfl rfl (by kernel_rfl) (fun _ _ _ h=>h) (Or.inl ⟨by rfl,?_⟩) ?_ ?_
        rotate_left
        ·
         intro w'
         go_simp
         with_reducible rfl
        rotate_left
        ·
         simp only [Act.put,lsa,lsz,lss,i64_w,i32_w]
         rfl
        refine take_ (i:=9) (N:=(some 53)) (v:=.agg #[.string (rd_T26 out ji).f0,.string (rd_T26 out ji).f1,.int .i64 (rd_T26 out ji).f2,.string (rd_T26 out ji).f3,.bool (rd_T26 out ji).f4]) (a':=?a9t) (bA 14 1023) rfl rfl (by kernel_rfl) (fun _ _ _ h=>h) ?hy9t hHeld ?ha9t ?hh9t
        case hy9t=>exact Or.inl ⟨by rfl,fun w' hw'=>by obtain ⟨s0,s1,s2,s3,s4,s5,s6,s7,s8,s9⟩:=hw';go_simp⟩
        case ha9t=>
         simp only [Act.put,lsa,lsz,lss,i64_w,i32_w]
         rfl
        refine take_ (i:=10) (N:=(some 54)) (v:=.agg #[.string c.f0,.string c.f1,.int .i64 c.f2,.string c.f3,.bool c.f4]) (a':=?a10t) (bA 14 2047) rfl rfl (by kernel_rfl) (fun _ _ _ h=>h) ?hy10t hHeld ?ha10t ?hh10t
        case hy10t=>exact Or.inl ⟨by rfl,fun w' hw'=>by obtain ⟨s0,s1,s2,s3,s4,s5,s6,s7,s8,s9⟩:=hw';go_simp⟩
        case ha10t=>
         simp only [Act.put,lsa,lsz,lss,i64_w,i32_w]
         rfl
        refine one_ (i:=11) (N:=(some 55)) (bA 14 4095) rfl rfl (by kernel_rfl) (by decide) (fun K hK=>?_);refine goes_ Try.func35 (by kernel_rfl) rfl #[.agg #[.string (rd_T26 out ji).f0,.string (rd_T26 out ji).f1,.int .i64 (rd_T26 out ji).f2,.string (rd_T26 out ji).f3,.bool (rd_T26 out ji).f4],.agg #[.string c.f0,.string c.f1,.int .i64 c.f2,.string c.f3,.bool c.f4]] (by rfl) rfl rfl agn ?_
        with_reducible refine (cell_Compare.calls k _ _ _ _ _ _ _ _ _ _ t _ HCM.out).mono ?_
        rintro e w9 ⟨rfl,hb⟩
        refine ⟨_,rfl,?_⟩;have n0:=aS (H8.out.below hb);have n1:=aS (Kd.R_below O8.out hb);have n2:=aS (blk_below BG8.out hb);have n3:=aS (blk_below B8.out hb);obtain ⟨s0,s1,s2,s3,s4,s5,s6,s7,s8,s9⟩:=HS.out;have hS9:=aS (show (fun w'=>w'.cell? ⟨g8,0,none⟩=some (.string c.f0)∧w'.cell? ⟨g8,1,none⟩=some (.string c.f1)∧w'.cell? ⟨g8,2,none⟩=some (.int .i64 c.f2)∧w'.cell? ⟨g8,3,none⟩=some (.string c.f3)∧w'.cell? ⟨g8,4,none⟩=some (.bool c.f4)∧w'.cell? (ad2.add (ji.toNat*5))=some (.string (rd_T26 out ji).f0)∧w'.cell? ⟨(ad2.add (ji.toNat*5)).block,(ad2.add (ji.toNat*5)).off+1,none⟩=some (.string (rd_T26 out ji).f1)∧w'.cell? ⟨(ad2.add (ji.toNat*5)).block,(ad2.add (ji.toNat*5)).off+2,none⟩=some (.int .i64 (rd_T26 out ji).f2)∧w'.cell? ⟨(ad2.add (ji.toNat*5)).block,(ad2.add (ji.toNat*5)).off+3,none⟩=some (.string (rd_T26 out ji).f3)∧w'.cell? ⟨(ad2.add (ji.toNat*5)).block,(ad2.add (ji.toNat*5)).off+4,none⟩=some (.bool (rd_T26 out ji).f4)) w9 from ⟨(blk_cell n3.out 0).trans rfl,(blk_cell n3.out 1).trans rfl,(blk_cell n3.out 2).trans rfl,(blk_cell n3.out 3).trans rfl,(blk_cell n3.out 4).trans rfl,(hb.cell (wbl _ _ s5)).trans s5,(hb.cell (wbl _ _ s6)).trans s6,(hb.cell (wbl _ _ s7)).trans s7,(hb.cell (wbl _ _ s8)).trans s8,(hb.cell (wbl _ _ s9)).trans s9⟩);clear H8 O8 BG8 B8 s0 s1 s2 s3 s4 s5 s6 s7 s8 s9 hb;have H8:=n0;have O8:=n1;have BG8:=n2;have B8:=n3;clear n0 n1 n2 n3;refine hK.out _ _ hS9.out (fun hHeld=>?_);clear hK K;refine nm 55 ?_;refine pure_ (i:=12) (N:=(some 56)) (v:=.bool true) (a':=?pa12t) (bA 14 8191) rfl rfl (by kernel_rfl) (fun _ _ _ h=>h) (Or.inl ⟨by rfl,?py12t⟩) ?pb12t ?ph12t
        case py12t=>
         intro w'
         go_simp
        case pb12t=>
         simp only [Act.put,lsa,lsz,lss,i64_w,i32_w]
         rfl
        refine pure_ (i:=13) (N:=(some 57)) (v:=.bool true) (a':=?pa13t) (bA 14 16383) rfl rfl (by kernel_rfl) (fun _ _ _ h=>h) (Or.inl ⟨by rfl,?py13t⟩) ?pb13t ?ph13t
        case py13t=>
         intro w'
         go_simp
        case pb13t=>
         simp only [Act.put,lsa,lsz,lss,i64_w,i32_w]
         rfl
        refine done_ (by kernel_rfl) ?_;clear hHeld hoz hoz2 ho0 hj0 hj1 hwj htz htv hb_ hS9;have z0:=(blk_cell B8.out 0).trans rfl;have z1:=(blk_cell B8.out 1).trans rfl;have z2:=(blk_cell B8.out 2).trans rfl;have z3:=(blk_cell B8.out 3).trans rfl;have z4:=(blk_cell B8.out 4).trans rfl;have xg:=(blk_cell BG8.out 0).trans hcl;have fz:=blk_frozen BG8.out 0
        go_upto_region 15 with (first | ((with_reducible refine gate_builtin (b:=.append) (xs:=#[.tmp 58,.tmp 60]) rfl ?_);at_builtin;(refine Kd.R_append k26 (w0:=w) w.heap.size rfl (.tmp 58) (.tmp 60) 24 26 (.agg #[(.string ⟨#[]⟩),(.string ⟨#[]⟩),(.int .i64 0),(.string ⟨#[]⟩),(.bool false)]) 64 rfl Try.underlying24 info26 rfl (by decide) (by omega) (.slice (some ad2) out.length c6) out c [.string c.f0,.string c.f1,.int .i64 c.f2,.string c.f3,.bool c.f4] (fun _=>True) (fun _=>False) rfl rfl ?aP (fun _ hk=>hk.elim) ?aF ?aO ?aB ?aS ?aL ?_;(case aP=>exact k26_mkM _ _ _ c);(case aB=>exact H8.out.bel);(case aF=>exact (fun _ _=>trivial));(case aO=>exact O8.out);(case aS=>exact H8.out.bel.size);(case aL=>omega);intro v61 w9 ho hb hg hat;have n0:=aS (H8.out.other O8.out hg hb);have n1:=aS ho;have n2:=aS (blk_grown BG8.out hg (Kd.R_ne O8.out BG8.out (by decide)));clear H8 O8 BG8 B8 ho hb hg hat;have H8:=n0;have O8:=n1;have BG8:=n2;clear n0 n1 n2;have xg:=(blk_cell BG8.out 0).trans hcl;have fz:=blk_frozen BG8.out 0)))
        obtain ⟨h9,f9⟩:=H8.out.cut hcd hCd.out;have O9:=aS (out_fr O8.out f9);have hx9:=World.cell?_setCell_same _ ⟨g,0,none⟩ (.slice A' d.length (cs - 1)) xg;have H9:=aS h9;have hb9:=h9.cell;clear f9 h9 xg fz H8 O8 BG8
        generalize World.setCell _ ⟨g,0,none⟩ (.slice A' d.length (cs - 1))=w10 at H9 O9 hx9 hb9 ⊢
        by_cases hone:s.f0.length=1
        ·
         rw [if_pos hone] at HN
         have hz:(d.length:Int)=0:=by omega
         obtain ⟨⟨r1,r2⟩,hr1,hr2⟩:=Option.bind_eq_some_iff.1 HN.out
         obtain rfl:=Option.some.inj hr2
         have hrl:=downF_length _ _ _ _ _ _ _ hr1;rw [swapQ_len,List.length_cons] at hrl;have HD:=aS hr1;clear hr1 hr2
         go_wp2_with (first | (go_at_call 46;(with_reducible refine (hpop_calls k (by simp;omega) (by simp) H9.out HD.out hrl).mono ?_);rintro en w11 ⟨⟨u,rfl⟩,v11,h11,f11⟩;have H11:=aS h11;have O11:=aS (out_fr O9.out f11);clear h11 f11))
         go_roundg m
         case measure=>omega
         case rel=>exact ⟨_,_,_,H11,O11,HH2⟩
        ·
         rw [if_neg hone] at HN
         have hz:¬ (d.length:Int)=0:=by omega
         obtain ⟨⟨r1,r2⟩,hr1,hr2⟩:=Option.bind_eq_some_iff.1 HN.out
         obtain rfl:=Option.some.inj hr2
         have hrl:=downF_length _ _ _ _ _ _ _ hr1;rw [List.length_cons] at hrl;have HD:=aS hr1;clear hr1 hr2
         go_wp2_with (first | (go_at_call 47;(with_reducible refine (hfix_calls k hk (by simp;omega) (by simp) H9.out HD.out (by omega)).mono ?_);rintro en w11 ⟨rfl,v11,h11,f11⟩;have H11:=aS h11;have O11:=aS (out_fr O9.out f11);clear h11 f11))
         go_roundg m
         case measure=>omega
         case rel=>exact ⟨_,_,_,H11,O11,HH2⟩
theorem upF_mono (k:Nat):∀ (m:Nat) (xs:List S84) (j:Nat),LeO (upF k m xs j) (upF (k+1) (m+1) xs j)
 | 0,_,_=>LeO.none _
 | m+1,xs,j=>by
  rw [upF,upF];exact LeO.ite (LeO.refl _) (LeO.bind (merge_queue_Less.mono _ _ _ _) (fun _=>LeO.ite (upF_mono k m _ _) (LeO.refl _)))
theorem downF_mono (k n:Nat):∀ (m:Nat) (xs:List S84) (i:Nat),LeO (downF k n m xs i) (downF (k+1) n (m+1) xs i)
 | 0,_,_=>LeO.none _
 | m+1,xs,i=>by
  rw [downF,downF];exact LeO.ite (LeO.refl _) (LeO.bind (LeO.ite (merge_queue_Less.mono _ _ _ _) (LeO.refl _)) (fun _=>LeO.bind (merge_queue_Less.mono _ _ _ _) (fun _=>LeO.ite (downF_mono k n m _ _) (LeO.refl _))))
theorem all1_mono (k:Nat):∀ (ls:List (List S26)) (i:Nat) (q:List S84),LeO (all1 k ls i q) (all1 (k+1) ls i q)
 | [],_,_=>LeO.refl _
 | l :: ls,i,q=>by
  rw [all1,all1];exact LeO.ite (all1_mono k ls _ _) (LeO.ite (LeO.bind (upF_mono k k _ _) (fun _=>all1_mono k ls _ _)) (LeO.refl _))
theorem allTake_mono (k:Nat) (out:List S26) (c:S26):LeO (allTake k out c) (allTake (k+1) out c):=
 LeO.ite (LeO.refl _) (LeO.bind (cell_Compare.mono _ _ _ _ _ _ _ _ _ _ _) (fun _=>LeO.refl _))
theorem allNext_mono (k:Nat) (s:S84) (q:List S84):LeO (allNext k s q) (allNext (k+1) s q):=
 LeO.ite (LeO.bind (downF_mono k _ k _ _) (fun _=>LeO.refl _)) (LeO.bind (downF_mono k _ k _ _) (fun _=>LeO.refl _))
theorem all2_mono (k:Nat):∀ (m:Nat) (q:List S84) (out:List S26),LeO (all2 k m q out) (all2 (k+1) (m+1) q out)
 | 0,_,_=>LeO.none _
 | m+1,[],out=>LeO.refl _
 | m+1,s :: q,out=>by
  rw [all2,all2];exact LeO.ite (LeO.bind (allTake_mono k _ _) (fun _=>LeO.bind (allNext_mono k _ _) (fun _=>all2_mono k m _ _))) (LeO.refl _)
theorem merge_All.mono:∀ a0 k,LeO (merge_All.f k a0) (merge_All.f (k+1) a0):=by
 intro a0 k
 unfold merge_All.f
 by_cases hk:k=0
 ·
  rw [if_pos hk];exact LeO.none _
 ·
  rw [if_neg hk,if_neg (by omega)];exact LeO.bind (all1_mono k a0 0 []) (fun _=>all2_mono k k _ _)
theorem table_Table_Cells.calls (g base:Nat) (l:List S26) (bs:List (List S26)) (fl:List Int) (r:List S26) (w:World) (hA:table_Open.At w base g l bs fl) (h:api_Cell_40.f l=some r) :
  Calls Try.prog 41 #[.pointer (some ⟨g,0,none⟩)] w fun e w'=>∃ v0_:Value,e = .returned v0_∧Kd.R k26 26 w' w.heap.size (fun _=>True) v0_ r∧Below w.heap.size w w':=by
 have hu26:=Try.underlying72;have hu22:=Try.underlying24;have hu39:=Try.underlying61;have hu70:=Try.underlying102;have hu42:=Try.underlying26;obtain ⟨vl,vb,vf,hA⟩:=hA;obtain ⟨Al,cl,rfl⟩:=Kd.R_slice hA.hl;obtain ⟨Ab,cb,rfl⟩:=Kd.R_slice hA.hb;obtain ⟨Af,cf,rfl⟩:=Kd.R_slice hA.hf;have HV:=aS hA;clear hA;have X:=aS h;clear h;have q0:=cK3 (aS HV.out.blk)
 go_enter Try.func41,Try.ntmps41
 go_wp2_with (go_at_call 40;(with_reducible refine (api_Cell_40.calls Al cl l r _ (Kd.R_reads' HV.out.hl).2.2 (Kd.R_reads' HV.out.hl).2.1 X.out).mono ?_);rintro e_ w2 ⟨v0,rfl,ho,hb⟩;have HO:=aS ho;have HB:=aS hb;clear ho hb)
 go_ret
 exact ⟨v0,rfl,HO.out,HB.out⟩
def tree_Tree_lists.l1:List (List S26 × List (List S26) × List Int)→List (List S26)→Option (List (List S26))
 | [],o=>some o
 | x :: r,o=>(api_Cell_40.f x.1).bind fun c=>if o.length<2199023255552 then tree_Tree_lists.l1 r (o++[c]) else none
def tree_Tree_lists.l0:List (List (List S26 × List (List S26) × List Int))→List (List S26)→Option (List (List S26))
 | [],o=>some o
 | l :: r,o=>(tree_Tree_lists.l1 l o).bind fun q=>tree_Tree_lists.l0 r q
def tree_Tree_lists.f (xs:List S26) (ls:List (List (List S26 × List (List S26) × List Int))):Option (List (List S26)):=(api_Cell_40.f xs).bind fun c=>tree_Tree_lists.l0 ls [c]
theorem tree_Tree_lists.calls (base:Nat) (ok:Nat→Prop) (g:Nat) (s1 s2 s3:Int) (xs:List S26) (n:Int) (ls:List (List (List S26 × List (List S26) × List Int))) (r:List (List S26)) (w:World) (hA:tree_New.At w base ok g s1 s2 s3 xs n ls) (h:tree_Tree_lists.f xs ls=some r) :
  Calls Try.prog 30 #[.pointer (some ⟨g,0,none⟩)] w fun e w'=>∃ v0_:Value,e = .returned v0_∧Kd.R (Kd.slice 26 k26) 24 w' w.heap.size (fun _=>True) v0_ r∧Below w.heap.size w w':=by
 have hu30:=Try.underlying30;have hu51:=Try.underlying51;have hu23:=Try.underlying23;have hu49:=Try.underlying49;have hu53:=Try.underlying53;have hu24:=Try.underlying24;have hu61:=Try.underlying61;obtain ⟨gm,vm,vl,vs,hA⟩:=hA;have HA:=aS hA;clear hA
 unfold tree_Tree_lists.f at h
 replace h:=obm h;obtain ⟨c,x1,h⟩:=h;have X1:=aS x1;have H:=aS h;clear x1 h;obtain ⟨A,cl,rfl,hcl,hmx,hat⟩:=HA.out.at;have HL:=aS HA.out.len;have HMX:=aS hmx;have HAT:=aS hat;have HAW:=aS HA.out;clear hat hmx;have q0:=cK5 (aS HA.out.blk)
 go_enter Try.func30,Try.ntmps30
 go_upto_region 2 with (first | (go_at_call 25;(with_reducible refine (mem_Mem_Cells.calls gm base xs c n vm _ HA.out.mem X1.out).mono ?_);rintro e_ w2 ⟨v2,rfl,ho,hb⟩;obtain ⟨A2,c2,rfl⟩:=Kd.R_slice ho;have HC2:=aS ho;have HB1:=aS hb;have HA1:=aS (HA.out.below hb);clear HA q0 ho hb;have HA:=HA1;clear HA1;have q0:=cK5 (aS HA.out.blk)))
 have HO:=aS (Kd.R_lower (tree_New.lit_row (Kd.slice 26 k26) (W:=w2) (e:=24) (xs:=[c]) (inner:=[.slice A2 c.length c2]) (Reps.one (Kd.M_row HC2.out) (Reps.none _ _)) HB1.out.size (by simp)) (Nat.le_refl _));have HB:=aS (bal HB1.out (.cells [.slice A2 c.length c2].toArray 24));have HA1:=aS (HA.out.below (bal (Below.refl _ _) (.cells [.slice A2 c.length c2].toArray 24)));clear HA HC2 HB1 q0;have HA:=HA1;clear HA1
 generalize w2.alloc (.cells #[.slice A2 c.length c2] 24)=w3 at HA HO HB ⊢
 have q0:=cK5 (aS HA.out.blk)
 go_wp2
 clear q0
 go_loopw [3,19] (fun v3 v19 wr=>∃ (i:Nat) (o:List (List S26)),v19 = .int .i64 (i:Int)∧Aside0 (i≤vs.length)∧Aside0 (tree_Tree_lists.l0 (ls.drop i) o=some r)∧Aside0 (Kd.R (Kd.slice 26 k26) 24 wr w.heap.size (fun _=>True) v3 o)∧Aside0 (Below w.heap.size w wr)) (fun _ i _=>vs.length - (intOf i).toNat)
 case atStart=>exact ⟨0,[c],rfl,⟨Nat.zero_le _⟩,H,HO,HB⟩
 case round=>
  clear H HO HB;obtain ⟨i,o,rfl,hi,HA0,HR,HBr⟩:=hrel
  by_cases hlt:i<vs.length
  ·
   have hq1:(i:Int)<(vs.length:Int):=by omega
   obtain ⟨ad,e_,hx⟩:=HAT.out wr (fun k _ hk=>HBr.out.block k hk) i hlt;subst e_;obtain ⟨Ai,ci,ei,hli,hCi⟩:=HAW.out.cells i hlt;rw [ei] at hx;have ha:=HA0.out;rw [tree_New.drop_at ls [] i (by rw [←HL.out];exact hlt)] at ha
   obtain ⟨li,hli_⟩:∃ x,x=ls.getD i []:=⟨_,rfl⟩
   rw [←hli_] at ha hx hli hCi
   unfold tree_Tree_lists.l0 at ha
   replace ha:=obm ha;obtain ⟨q,y1,ha⟩:=ha;have Y1:=aS y1;have HA1:=aS ha;have HCI:=aS hCi;have HLI:=aS hCi.2.1
   have hix:∀ W:World,(Instr.indexAt 49 (.slice (some ad) vs.length cl) (.int .i64 (i:Int))).run Try.prog W = .ok (.pointer (some (ad.add i))) W:=by
    obtain ⟨i0,hi0,hz⟩:=Option.map_eq_some_iff.1 info53
    simp only [Prod.mk.injEq] at hz
    intro W
    have h1:=index_ad 49 53 hu49 hi0 1 hz.2.1 ad vs.length cl (i:Int) (by omega) (by omega) W
    rwa [Nat.mul_one,Int.toNat_natCast] at h1
   have hwr:wrap64 ((i:Int)+1)=(i:Int)+1:=by rw [←i64_w,IntKind.wrap_i64];have:=HMX.out;omega
   clear y1 ha HA0 hCi hi hli_ ei hli
   go_wp2
   go_loopw [3,25] (fun v3 v25 wi=>∃ (j:Nat) (p:List (List S26)),v25 = .int .i64 (j:Int)∧Aside0 (j≤li.length)∧Aside0 (tree_Tree_lists.l1 (li.drop j) p=some q)∧Aside0 (Kd.R (Kd.slice 26 k26) 24 wi w.heap.size (fun _=>True) v3 p)∧Aside0 (Below w.heap.size w wi)) (fun _ j _=>li.length - (intOf j).toNat)
   case atStart=>exact ⟨0,o,rfl,⟨Nat.zero_le _⟩,Y1,HR,HBr⟩
   case round=>
    clear HR HBr Y1 hx;obtain ⟨j,p,rfl,hj,HP,HR,HBr⟩:=hrel
    by_cases hlj:j<li.length
    ·
     have hj1:(j:Int)<(li.length:Int):=by omega
     obtain ⟨ad2,gx,e_,hy,hOP⟩:=tree_New.tab_at (Kd.C_below HCI.out HBr.out) j hlj;subst e_;have ha:=HP.out;rw [tree_New.drop_at li ([],[],[]) j hlj] at ha
     obtain ⟨x,hx_⟩:∃ x,x=li.getD j ([],[],[]):=⟨_,rfl⟩
     rw [←hx_] at ha hOP
     unfold tree_Tree_lists.l1 at ha
     replace ha:=obm ha;obtain ⟨d,y2,ha⟩:=ha
     by_cases hlim:p.length<2199023255552
     case neg=>rw [if_neg hlim] at ha;cases ha
     rw [if_pos hlim] at ha;have Y2:=aS y2;have HP1:=aS ha;have HOP:=aS hOP;have HLM:=aS hlim
     have hiy:∀ W:World,(Instr.indexAt 53 (.slice (some ad2) li.length ci) (.int .i64 (j:Int))).run Try.prog W = .ok (.pointer (some (ad2.add j))) W:=by
      obtain ⟨i0,hi0,hz⟩:=Option.map_eq_some_iff.1 info75
      simp only [Prod.mk.injEq] at hz
      intro W
      have h1:=index_ad 53 75 hu53 hi0 1 hz.2.1 ad2 li.length ci (j:Int) (by omega) (by omega) W
      rwa [Nat.mul_one,Int.toNat_natCast] at h1
     have hwj:wrap64 ((j:Int)+1)=(j:Int)+1:=by rw [←i64_w,IntKind.wrap_i64];have:=HLI.out;omega
     clear y2 ha HP hOP hj hlim hx_
     go_wp2_with (first | (go_at_call 41;(with_reducible refine (table_Table_Cells.calls gx 0 x.1 x.2.1 x.2.2 d _ HOP.out Y2.out).mono ?_);rintro e_ w5 ⟨v5,rfl,ho,hb⟩;obtain ⟨A5,c5,rfl⟩:=Kd.R_slice ho;have HD5:=aS (Kd.R_lower (Kd.R_new' ho (Kd.R_lt HR.out)) HBr.out.size);have HR1:=aS (Kd.R_below HR.out hb);have HB1:=aS (below_step HBr.out hb);clear ho hb HR HBr) | (at_builtin;refine Kd.R_append (Kd.slice 26 k26) (w0:=w) w.heap.size rfl _ _ 61 24 _ _ rfl hu61 info24 rfl (by decide) (by decide) u3 p d [.slice A5 d.length c5] (fun _=>True) (fun k=>True∧some k≠u3.ownBlock) rfl rfl (Kd.M_row HD5.out) (fun _ hk=>hk) (fun _ _=>trivial) HR1.out HB1.out HB1.out.size (by have:=HLM.out;clear hwj hwr;omega) ?_;intro v8 w6 ho hb hg hat;have HR2:=aS ho;have HB2:=aS hb;clear ho hb hg hat HR1 HB1 HD5))
     go_roundw
     case rel=>exact ⟨j+1,_,by rw [hwj];rfl,⟨hlj⟩,HP1,HR2,HB2⟩
     case measure=>exact meas1 hwj hlj
    ·
     have hge:¬ ((j:Int)<(li.length:Int)):=by omega
     have ha:=HP.out;rw [List.drop_eq_nil_of_le (show li.length≤j by omega)] at ha
     unfold tree_Tree_lists.l1 at ha
     obtain e1:=Option.some.inj ha
     subst e1;clear ha HP
     go_wp2
     go_roundw
     case rel=>exact ⟨i+1,_,by rw [hwr];rfl,⟨hlt⟩,HA1,HR,HBr⟩
     case measure=>exact meas1 hwr hlt
  ·
   have hge:¬ ((i:Int)<(vs.length:Int)):=by omega
   have ha:=HA0.out;rw [List.drop_eq_nil_of_le (show ls.length≤i by rw [←HL.out];omega)] at ha
   unfold tree_Tree_lists.l0 at ha
   obtain e1:=Option.some.inj ha
   subst e1
   go_wp2
   go_ret
   exact ⟨_,rfl,HR.out,HBr.out⟩
end Go.Proofs.Ytcbhfedcdnjljaa.X

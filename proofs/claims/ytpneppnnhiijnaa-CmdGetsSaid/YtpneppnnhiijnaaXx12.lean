-- written by a program of this session's, over the kit's print
import Derived.Test.YtpneppnnhiijnaaXx0
import Derived.Test.YtpneppnnhiijnaaXx11
namespace Go.Proofs.Ytpneppnnhiijnaa.X
open Go.RowKit Go.Proofs.YtpneppnnhiijnaaW.PrintWords Go.Proofs.YtpneppnnhiijnaaW.PrintLast Go.Proofs.YtpneppnnhiijnaaW.PrintMore
attribute [local go_sem] max2_int min2_int max_two min_two max_three min_three max_four min_four gtr_str   -- for this text's walks alone
set_option linter.unusedVariables false
set_option linter.unusedSimpArgs false

/-! ### shardlogref15_Get: function 16 -/
def shardlogref15_Get.l0 (b : List Int) : Nat → List ByteArray → Int → Option (Option (List ByteArray × Int))
  | 0, ls, p => some (some (ls, p))
  | m + 1, ls, p => (shardlogref01_TextAt.f b p).bind fun t => if t.2 = 0 then some none else shardlogref15_Get.l0 b m (ls ++ [t.1]) (wrap64 (p + t.2))
abbrev shardlogref15_Get.T := Int × Int × Int × ByteArray × ByteArray × ByteArray × Int × ByteArray × ByteArray × Bool × Bool
def shardlogref15_Get.bad : shardlogref15_Get.T := (0, 0, 0, ⟨#[]⟩, ⟨#[]⟩, ⟨#[]⟩, 0, ⟨#[]⟩, ⟨#[]⟩, false, false)
def shardlogref15_Get.fin (k : Nat) (b : List Int) (s0 s1 s2 s3 s4 : ByteArray) (p n0 n1 n2 n3 n4 : Int) : Option shardlogref15_Get.T :=
  if p = (b.length : Int) then (if n4 ≤ 1 then (shardlogref15_Right.f k n0 n1 n2 s0 s1 s2 n3 s3 s4 (n4 == 1)).bind fun r => some (n0, n1, n2, s0, s1, s2, n3, s3, s4, (n4 == 1), r) else some (n0, n1, n2, s0, s1, s2, n3, s3, s4, (n4 == 1), false)) else some (n0, n1, n2, s0, s1, s2, n3, s3, s4, (n4 == 1), false)
def shardlogref15_Get.nth (l : List ByteArray) (i : Nat) : ByteArray := l.getD i ⟨#[]⟩
def shardlogref15_Get.mid (k : Nat) (b : List Int) (l : List ByteArray) (p : Int) : Option shardlogref15_Get.T :=
  (shardlogref01_At.f b 16).bind fun n4 => (shardlogref01_At.f b 0).bind fun n0 => (shardlogref01_At.f b 4).bind fun n1 => (shardlogref01_At.f b 8).bind fun n2 => (shardlogref01_At.f b 12).bind fun n3 => shardlogref15_Get.fin k b (shardlogref15_Get.nth l 0) (shardlogref15_Get.nth l 1) (shardlogref15_Get.nth l 2) (shardlogref15_Get.nth l 3) (shardlogref15_Get.nth l 4) p n0 n1 n2 n3 n4
def shardlogref15_Get.end_ (k : Nat) (b : List Int) : Option (List ByteArray × Int) → Option shardlogref15_Get.T
  | none => some shardlogref15_Get.bad
  | some u => shardlogref15_Get.mid k b u.1 u.2
def shardlogref15_Get.f (k : Nat) (a0 : ByteArray) : Option (Int × Int × Int × ByteArray × ByteArray × ByteArray × Int × ByteArray × ByteArray × Bool × Bool) :=
  if a0.size ≤ 9223372036854775807 then (if ((bytesOf a0).length : Int) < 20 then some shardlogref15_Get.bad else (shardlogref15_Get.l0 (bytesOf a0) 5 [] 20).bind fun t => shardlogref15_Get.end_ k (bytesOf a0) t) else none
theorem shardlogref15_Get.fin_mono (k : Nat) (b s0 s1 s2 s3 s4 p n0 n1 n2 n3 n4) : LeO (shardlogref15_Get.fin k b s0 s1 s2 s3 s4 p n0 n1 n2 n3 n4) (shardlogref15_Get.fin (k + 1) b s0 s1 s2 s3 s4 p n0 n1 n2 n3 n4) :=
  LeO.ite (LeO.ite (LeO.bind (shardlogref15_Right.mono _ _ _ _ _ _ _ _ _ _ _) (fun _ => LeO.refl _)) (LeO.refl _)) (LeO.refl _)
theorem shardlogref15_Get.mid_mono (k : Nat) (b l p) : LeO (shardlogref15_Get.mid k b l p) (shardlogref15_Get.mid (k + 1) b l p) :=
  LeO.bind (LeO.refl _) (fun _ => LeO.bind (LeO.refl _) (fun _ => LeO.bind (LeO.refl _) (fun _ => LeO.bind (LeO.refl _) (fun _ => LeO.bind (LeO.refl _) (fun _ => shardlogref15_Get.fin_mono k _ _ _ _ _ _ _ _ _ _ _ _)))))
theorem shardlogref15_Get.end_mono (k : Nat) (b) : ∀ t, LeO (shardlogref15_Get.end_ k b t) (shardlogref15_Get.end_ (k + 1) b t)
  | none => LeO.refl _
  | some _ => shardlogref15_Get.mid_mono k b _ _
theorem shardlogref15_Get.mono : ∀ a0 k, LeO (shardlogref15_Get.f k a0) (shardlogref15_Get.f (k + 1) a0) := fun a0 k =>
  LeO.ite (LeO.ite (LeO.refl _) (LeO.bind (LeO.refl _) (fun _ => shardlogref15_Get.end_mono k _ _))) (LeO.refl _)
set_option maxHeartbeats 8000000 in
set_option maxRecDepth 100000 in
theorem shardlogref15_Get.calls (k : Nat) (a0 : ByteArray) (r0_0 r0_1 r0_2 : Int) (r0_3 r0_4 r0_5 : ByteArray) (r0_6 : Int) (r0_7 r0_8 : ByteArray) (r0_9 : Bool) (r1 : Bool) (w : World) (h : shardlogref15_Get.f k a0 = some (r0_0, r0_1, r0_2, r0_3, r0_4, r0_5, r0_6, r0_7, r0_8, r0_9, r1)) :
    Calls Try.prog 16 #[.string a0] w fun e w' => e = .returned (.tuple #[.agg #[.int .i64 r0_0, .int .i64 r0_1, .int .i64 r0_2, .string r0_3, .string r0_4, .string r0_5, .int .i64 r0_6, .string r0_7, .string r0_8, .bool r0_9], .bool r1]) ∧ Below w.heap.size w w' := by
  unfold shardlogref15_Get.f at h
  split at h
  rotate_left
  · cases h
  rename_i hsz
  have H := Aside0.mk h
  clear h
  have hu1 := Try.underlying23
  go_enter Try.func16, Try.ntmps16
  go_upto_region 2 with (first | ((with_reducible refine gate_dst (N := 2) rfl ?_); refine box_event ?hg (N := 2) ?hd (cs := #[.int .i64 0, .int .i64 0, .int .i64 0, .string ⟨#[]⟩, .string ⟨#[]⟩, .string ⟨#[]⟩, .int .i64 0, .string ⟨#[]⟩, .string ⟨#[]⟩, .bool false]) (t := 23) ?hr ?_; (case hd => rfl); (case hg => rfl); (case hr => (first | (go_simp; done) | (go_simp; rfl))); intro g2 hg w1 hb hbl; have HG := Aside0.mk hg; have HV := Aside0.mk hb; have HB := Aside0.mk hbl; clear hg hb hbl) | ((with_reducible refine gate_dst (N := 13) rfl ?_); refine Kd.V_bytes rfl (N := 13) rfl 9 41 5 _ a0 rfl rfl Try.underlying9 Try.underlying41 Try.underlying5 hsz ?_; intro v1 w4 hv hb; obtain ⟨A0, c0, rfl⟩ := Kd.V_slice hv; have HBY := Aside0.mk hv; have HB4 := Aside0.mk hb; clear hv hb))
  have hge2 : w.heap.size ≤ g2 := by rw [HG.out]; exact Nat.le_refl _
  have HV4 := Aside0.mk (blk_below HV.out HB4.out)
  have HB0 := Aside0.mk (below_step HB.out HB4.out)
  obtain ⟨_, hc4, hC4⟩ := Kd.V_reads' HBY.out
  have HC4 := Aside0.mk hC4
  clear hC4 HV HB HB4 HBY HG
  generalize bytesOf a0 = b at *
  by_cases hlt : (b.length : Int) < 20
  · have h := H.out
    rw [if_pos hlt] at h
    simp only [shardlogref15_Get.bad, Option.some.injEq, Prod.mk.injEq] at h
    obtain ⟨rfl, rfl, rfl, rfl, rfl, rfl, rfl, rfl, rfl, rfl, rfl⟩ := h
    go_wp2_with (first | ((with_reducible refine gate_store (t := 23) (p := 2) rfl ?_); refine wpList_store_row rfl 23 _ _ rfl g2 #[.int .i64 0, .int .i64 0, .int .i64 0, .string ⟨#[]⟩, .string ⟨#[]⟩, .string ⟨#[]⟩, .int .i64 0, .string ⟨#[]⟩, .string ⟨#[]⟩, .bool false] rfl rfl 23 _ HV4.out (by kernel_rfl) rfl (by kernel_rfl) ?_; have HR := Aside0.mk (setRow_heap _ g2 _ #[.int .i64 0, .int .i64 0, .int .i64 0, .string ⟨#[]⟩, .string ⟨#[]⟩, .string ⟨#[]⟩, .int .i64 0, .string ⟨#[]⟩, .string ⟨#[]⟩, .bool false] _ _ HV4.out); have HBR := Aside0.mk (below_setRow HB0.out hge2 #[.int .i64 0, .int .i64 0, .int .i64 0, .string ⟨#[]⟩, .string ⟨#[]⟩, .string ⟨#[]⟩, .int .i64 0, .string ⟨#[]⟩, .string ⟨#[]⟩, .bool false])))
    refine bodyPost_ret (results_ct rfl _ _ g2 23 #[.int .i64 0, .int .i64 0, .int .i64 0, .string ⟨#[]⟩, .string ⟨#[]⟩, .string ⟨#[]⟩, .int .i64 0, .string ⟨#[]⟩, .string ⟨#[]⟩, .bool false] (0, 0) _ rfl HR.out Try.underlying23 rfl (by kernel_rfl)) rfl ?_
    exact ⟨rfl, HBR.out⟩
  have h := H.out
  rw [if_neg hlt] at h
  obtain ⟨res, hl0, hend⟩ := Option.bind_eq_some_iff.1 h
  have HL0 := Aside0.mk hl0
  have HE := Aside0.mk hend
  clear h H hl0 hend
  go_wp2
  go_loopw [5, 6, 7] (fun v5 v6 v7 wr => ∃ (i : Nat) (ls : List ByteArray) (p : Int), v7 = .int .i64 (i : Int) ∧ v6 = .int .i64 p ∧ Aside0 (i ≤ 5 ∧ ls.length = i) ∧ Aside0 (shardlogref15_Get.l0 b (5 - i) ls p = some res) ∧ Aside0 (Kd.R Kd.string 9 wr w4.heap.size (fun _ => True) v5 ls) ∧ Aside0 (Below w4.heap.size w4 wr)) (fun _ _ i _ => 5 - (intOf i).toNat)
  case atStart => exact ⟨0, [], 20, rfl, rfl, ⟨by simp⟩, HL0, ⟨Kd.R_nil _ _ _ _ _⟩, ⟨Below.refl _ _⟩⟩
  case round =>
    clear HL0
    obtain ⟨i, ls, p, rfl, rfl, hi, HL0, HR5, HBW⟩ := hrel
    obtain ⟨hi5, hil⟩ := hi.out
    have HIL := Aside0.mk hil
    by_cases hlt5 : i < 5
    · obtain ⟨m, hm⟩ : ∃ m, 5 - i = m + 1 := ⟨4 - i, by omega⟩
      have hl := HL0.out
      rw [hm] at hl
      unfold shardlogref15_Get.l0 at hl
      obtain ⟨⟨t1, t2⟩, htx, hl⟩ := Option.bind_eq_some_iff.1 hl
      have HTX := Aside0.mk htx
      have HL1 := Aside0.mk hl
      have hM := Aside0.mk hm
      clear htx hl HL0 hm
      have hcw := Aside0.mk (Kd.C_below HC4.out HBW.out)
      obtain ⟨A5, c5, rfl⟩ := Kd.R_slice HR5.out
      by_cases ht0 : t2 = 0
      · subst ht0
        have h1 := HL1.out
        simp only [if_true] at h1
        obtain rfl := Option.some.inj h1
        have h2 := HE.out
        simp only [shardlogref15_Get.end_, shardlogref15_Get.bad, Option.some.injEq, Prod.mk.injEq] at h2
        obtain ⟨rfl, rfl, rfl, rfl, rfl, rfl, rfl, rfl, rfl, rfl, rfl⟩ := h2
        have HV5 := Aside0.mk (blk_below HV4.out HBW.out)
        have HB5 := Aside0.mk (below_step HB0.out HBW.out)
        clear h1
        go_wp2_with (first | (go_at_call 24; (with_reducible refine (shardlogref01_TextAt.calls A0 c0 b p t1 0 _ hcw.out hc4 HTX.out).mono ?_); rintro e w5 ⟨rfl, hdr⟩; have HV6 := Aside0.mk (blk_below HV5.out hdr.below); have HB6 := Aside0.mk (below_step HB5.out hdr.below); clear hdr) | ((with_reducible refine gate_store (t := 23) (p := 2) rfl ?_); refine wpList_store_row rfl 23 _ _ rfl g2 #[.int .i64 0, .int .i64 0, .int .i64 0, .string ⟨#[]⟩, .string ⟨#[]⟩, .string ⟨#[]⟩, .int .i64 0, .string ⟨#[]⟩, .string ⟨#[]⟩, .bool false] rfl rfl 23 _ HV6.out (by kernel_rfl) rfl (by kernel_rfl) ?_; have HR := Aside0.mk (setRow_heap _ g2 _ #[.int .i64 0, .int .i64 0, .int .i64 0, .string ⟨#[]⟩, .string ⟨#[]⟩, .string ⟨#[]⟩, .int .i64 0, .string ⟨#[]⟩, .string ⟨#[]⟩, .bool false] _ _ HV6.out); have HBR := Aside0.mk (below_setRow HB6.out hge2 #[.int .i64 0, .int .i64 0, .int .i64 0, .string ⟨#[]⟩, .string ⟨#[]⟩, .string ⟨#[]⟩, .int .i64 0, .string ⟨#[]⟩, .string ⟨#[]⟩, .bool false])))
        refine bodyPost_ret (results_ct rfl _ _ g2 23 #[.int .i64 0, .int .i64 0, .int .i64 0, .string ⟨#[]⟩, .string ⟨#[]⟩, .string ⟨#[]⟩, .int .i64 0, .string ⟨#[]⟩, .string ⟨#[]⟩, .bool false] (0, 0) _ rfl HR.out Try.underlying23 rfl (by kernel_rfl)) rfl ?_
        exact ⟨rfl, HBR.out⟩
      · have h1 := HL1.out
        clear hil
        rw [if_neg ht0] at h1
        have HL2 := Aside0.mk h1
        clear h1 HL1
        go_wp2_with (first | (go_at_call 24; (with_reducible refine (shardlogref01_TextAt.calls A0 c0 b p t1 t2 _ hcw.out hc4 HTX.out).mono ?_); rintro e w5 ⟨rfl, hdr⟩; have HR6 := Aside0.mk (Kd.R_below HR5.out hdr.below); have HB6 := Aside0.mk (below_step HBW.out hdr.below); clear hdr) | ((with_reducible refine gate_builtin (b := .append) (xs := #[.tmp 31, .tmp 33]) rfl ?_); at_builtin; refine Kd.R_append Kd.string (w0 := w4) w4.heap.size rfl (.tmp 31) (.tmp 33) 40 9 (.string ⟨#[]⟩) 16 rfl Try.underlying40 info9 rfl (by decide) (by omega) (.slice A5 ls.length c5) ls t1 [.string t1] (fun _ => True) (fun _ => False) rfl rfl ?aP (fun _ hk => hk.elim) ?aF ?aO ?aB ?aS ?aL ?_; (case aP => exact rfl); (case aB => exact HB6.out); (case aF => exact (fun _ _ => trivial)); (case aO => exact HR6.out); (case aS => exact HB6.out.size); (case aL => have := HIL.out; omega); intro v7 w7 ho hb hg hat; have HR7 := Aside0.mk ho; have HB7 := Aside0.mk hb; clear ho hb hg hat HR6 HB6))
        go_roundw
        case rel =>
          have hm2 : 5 - (i + 1) = m := by have := hM.out; omega
          exact ⟨i + 1, ls ++ [t1], wrap64 (p + t2), by go_num, by first | rfl | go_num | simp, ⟨by omega, by rw [List.length_append, List.length_singleton, HIL.out]⟩, ⟨by rw [hm2]; exact HL2.out⟩, HR7, HB7⟩
        case measure => simp [intOf]; omega
    · have hi0 : i = 5 := by omega
      subst hi0
      have hl := HL0.out
      unfold shardlogref15_Get.l0 at hl
      obtain rfl := Option.some.inj hl
      obtain ⟨s0, s1, s2, s3, s4, rfl⟩ : ∃ s0 s1 s2 s3 s4, ls = [s0, s1, s2, s3, s4] := by
        match ls, hil with
        | [a, b, c, d, e], _ => exact ⟨a, b, c, d, e, rfl⟩
      have he := HE.out
      unfold shardlogref15_Get.end_ shardlogref15_Get.mid at he
      obtain ⟨n4, h4, he⟩ := Option.bind_eq_some_iff.1 he
      obtain ⟨n0, h0, he⟩ := Option.bind_eq_some_iff.1 he
      obtain ⟨n1, h1, he⟩ := Option.bind_eq_some_iff.1 he
      obtain ⟨n2, h2, he⟩ := Option.bind_eq_some_iff.1 he
      obtain ⟨n3, h3, he⟩ := Option.bind_eq_some_iff.1 he
      have K0 := Aside0.mk h0; have K1 := Aside0.mk h1; have K2 := Aside0.mk h2; have K3 := Aside0.mk h3; have K4 := Aside0.mk h4
      have HF : Aside0 (shardlogref15_Get.fin k b s0 s1 s2 s3 s4 p n0 n1 n2 n3 n4 = some (r0_0, r0_1, r0_2, r0_3, r0_4, r0_5, r0_6, r0_7, r0_8, r0_9, r1)) := ⟨he⟩
      clear hl HL0 HE he h0 h1 h2 h3 h4 hi hi5 hil HIL
      have hcw := Aside0.mk (Kd.C_below HC4.out HBW.out)
      obtain ⟨g5, c5, rfl, hg5, _⟩ := Kd.R_form HR5.out (by simp)
      go_upto_region 15 with (first | (go_at_call 25; (with_reducible refine (shardlogref01_At.calls A0 c0 b 16 n4 _ hcw.out hc4 K4.out).mono ?_); rintro e w5 ⟨rfl, hdr⟩; have HR6 := Aside0.mk (Kd.R_below HR5.out hdr.below); have HB6 := Aside0.mk (below_step HBW.out hdr.below); clear hdr HR5 HBW hcw))
      go_cut [11] (fun v11 wc => ∃ q : Nat, v11 = .pointer (some ⟨q, 0, none⟩) ∧ Aside0 (wc.heap[q]? = some (.cells #[.int .i64 n0, .int .i64 n1, .int .i64 n2, .string s0, .string s1, .string s2, .int .i64 n3, .string s3, .string s4, .bool (n4 == 1)] 23 (0, 0))) ∧ Aside0 (Below w4.heap.size w4 wc) ∧ Aside0 (w4.heap.size ≤ q))
      case first =>
        obtain ⟨_, _, hc5⟩ := Kd.R_reads' HR6.out
        have u0 := Kd.at_string hc5 0 (by omega) (by simp); have u1 := Kd.at_string hc5 1 (by omega) (by simp); have u2 := Kd.at_string hc5 2 (by omega) (by simp); have u3 := Kd.at_string hc5 3 (by omega) (by simp); have u4 := Kd.at_string hc5 4 (by omega) (by simp)
        have HS : Aside0 ((fun w' => w'.cell? ⟨g5, 0, none⟩ = some (.string s0) ∧ w'.cell? ⟨g5, 1, none⟩ = some (.string s1) ∧ w'.cell? ⟨g5, 2, none⟩ = some (.string s2) ∧ w'.cell? ⟨g5, 3, none⟩ = some (.string s3) ∧ w'.cell? ⟨g5, 4, none⟩ = some (.string s4)) w5.drew) := ⟨by
          obtain ⟨a0, e0, x0⟩ := u0; obtain ⟨a1, e1, x1⟩ := u1; obtain ⟨a2, e2, x2⟩ := u2; obtain ⟨a3, e3, x3⟩ := u3; obtain ⟨a4, e4, x4⟩ := u4
          injection e0 with e0; injection e1 with e1; injection e2 with e2; injection e3 with e3; injection e4 with e4
          subst e0; subst e1; subst e2; subst e3; subst e4
          exact ⟨x0, x1, x2, x3, x4⟩⟩
        have HBd := Aside0.mk (below_step HB6.out (below_drew (Below.refl _ _)))
        clear u0 u1 u2 u3 u4 hc5 HB6 HR6
        have HB6 := HBd
        clear HBd
        refine start_ (n := 28) (ds := [27]) (S := fun w' => w'.cell? ⟨g5, 0, none⟩ = some (.string s0) ∧ w'.cell? ⟨g5, 1, none⟩ = some (.string s1) ∧ w'.cell? ⟨g5, 2, none⟩ = some (.string s2) ∧ w'.cell? ⟨g5, 3, none⟩ = some (.string s3) ∧ w'.cell? ⟨g5, 4, none⟩ = some (.string s4)) #[false, false, false, false, false, false, false, false, false, false, false, false, false, false, false, false, false, false, false, false, false, false, false, false, false, false, false, false] rfl rfl rfl HS.out (fun hHeld => ?_)
        generalize w5.drew = w6 at HS HB6 hHeld ⊢
        refine pure_ (i := 0) (N := (some 40)) (v := ?_) (a' := ?_) #[true, false, false, false, false, false, false, false, false, false, false, false, false, false, false, false, false, false, false, false, false, false, false, false, false, false, false, false] rfl rfl (by kernel_rfl) (fun _ _ _ h => h) (Or.inl ⟨by rfl, ?_⟩) ?_ ?_
        rotate_left
        · intro w'
          go_simp
          with_reducible rfl
        rotate_left
        · simp only [Act.put, List.setIfInBounds_toArray, List.set_cons_zero, List.set_cons_succ, i64_w, i32_w]
          rfl
        refine pure_ (i := 2) (N := (some 42)) (v := ?_) (a' := ?_) #[true, false, true, false, false, false, false, false, false, false, false, false, false, false, false, false, false, false, false, false, false, false, false, false, false, false, false, false] rfl rfl (by kernel_rfl) (fun _ _ _ h => h) (Or.inl ⟨by rfl, ?_⟩) ?_ ?_
        rotate_left
        · intro w'
          go_simp
          with_reducible rfl
        rotate_left
        · simp only [Act.put, List.setIfInBounds_toArray, List.set_cons_zero, List.set_cons_succ, i64_w, i32_w]
          rfl
        refine pure_ (i := 4) (N := (some 44)) (v := ?_) (a' := ?_) #[true, false, true, false, true, false, false, false, false, false, false, false, false, false, false, false, false, false, false, false, false, false, false, false, false, false, false, false] rfl rfl (by kernel_rfl) (fun _ _ _ h => h) (Or.inl ⟨by rfl, ?_⟩) ?_ ?_
        rotate_left
        · intro w'
          go_simp
          with_reducible rfl
        rotate_left
        · simp only [Act.put, List.setIfInBounds_toArray, List.set_cons_zero, List.set_cons_succ, i64_w, i32_w]
          rfl
        refine pure_ (i := 6) (N := (some 46)) (v := ?_) (a' := ?_) #[true, false, true, false, true, false, true, false, false, false, false, false, false, false, false, false, false, false, false, false, false, false, false, false, false, false, false, false] rfl rfl (by kernel_rfl) (fun _ _ _ h => h) (Or.inl ⟨by rfl, ?_⟩) ?_ ?_
        rotate_left
        · intro w'
          go_simp
          with_reducible rfl
        rotate_left
        · simp only [Act.put, List.setIfInBounds_toArray, List.set_cons_zero, List.set_cons_succ, i64_w, i32_w]
          rfl
        refine pure_ (i := 8) (N := (some 48)) (v := ?_) (a' := ?_) #[true, false, true, false, true, false, true, false, true, false, false, false, false, false, false, false, false, false, false, false, false, false, false, false, false, false, false, false] rfl rfl (by kernel_rfl) (fun _ _ _ h => h) (Or.inl ⟨by rfl, ?_⟩) ?_ ?_
        rotate_left
        · intro w'
          go_simp
          with_reducible rfl
        rotate_left
        · simp only [Act.put, List.setIfInBounds_toArray, List.set_cons_zero, List.set_cons_succ, i64_w, i32_w]
          rfl
        refine pure_ (i := 9) (N := (some 49)) (v := ?_) (a' := ?_) #[true, false, true, false, true, false, true, false, true, true, false, false, false, false, false, false, false, false, false, false, false, false, false, false, false, false, false, false] rfl rfl (by kernel_rfl) (fun _ _ _ h => h) (Or.inl ⟨by rfl, ?_⟩) ?_ ?_
        rotate_left
        · intro w'
          go_simp
          with_reducible rfl
        rotate_left
        · simp only [Act.put, List.setIfInBounds_toArray, List.set_cons_zero, List.set_cons_succ, i64_w, i32_w]
          rfl
        refine pure_ (i := 10) (N := (some 50)) (v := ?_) (a' := ?_) #[true, false, true, false, true, false, true, false, true, true, true, false, false, false, false, false, false, false, false, false, false, false, false, false, false, false, false, false] rfl rfl (by kernel_rfl) (fun _ _ _ h => h) (Or.inl ⟨by rfl, ?_⟩) ?_ ?_
        rotate_left
        · intro w'
          go_simp
          with_reducible rfl
        rotate_left
        · simp only [Act.put, List.setIfInBounds_toArray, List.set_cons_zero, List.set_cons_succ, i64_w, i32_w]
          rfl
        refine pure_ (i := 11) (N := (some 51)) (v := ?_) (a' := ?_) #[true, false, true, false, true, false, true, false, true, true, true, true, false, false, false, false, false, false, false, false, false, false, false, false, false, false, false, false] rfl rfl (by kernel_rfl) (fun _ _ _ h => h) (Or.inl ⟨by rfl, ?_⟩) ?_ ?_
        rotate_left
        · intro w'
          go_simp
          with_reducible rfl
        rotate_left
        · simp only [Act.put, List.setIfInBounds_toArray, List.set_cons_zero, List.set_cons_succ, i64_w, i32_w]
          rfl
        refine take_ (i := 12) (N := (some 52)) (v := .string s0) (a' := ?a12z) #[true, false, true, false, true, false, true, false, true, true, true, true, true, false, false, false, false, false, false, false, false, false, false, false, false, false, false, false] rfl rfl (by kernel_rfl) (fun _ _ _ h => h) ?hy12z hHeld ?ha12z ?hh12z
        case hy12z => exact Or.inl ⟨by rfl, fun w' hw' => by obtain ⟨y0, y1, y2, y3, y4⟩ := hw'; go_simp⟩
        case ha12z =>
          simp only [Act.put, List.setIfInBounds_toArray, List.set_cons_zero, List.set_cons_succ, i64_w, i32_w]
          rfl
        refine pure_ (i := 13) (N := (some 53)) (v := ?_) (a' := ?_) #[true, false, true, false, true, false, true, false, true, true, true, true, true, true, false, false, false, false, false, false, false, false, false, false, false, false, false, false] rfl rfl (by kernel_rfl) (fun _ _ _ h => h) (Or.inl ⟨by rfl, ?_⟩) ?_ ?_
        rotate_left
        · intro w'
          go_simp
          with_reducible rfl
        rotate_left
        · simp only [Act.put, List.setIfInBounds_toArray, List.set_cons_zero, List.set_cons_succ, i64_w, i32_w]
          rfl
        refine pure_ (i := 14) (N := (some 54)) (v := ?_) (a' := ?_) #[true, false, true, false, true, false, true, false, true, true, true, true, true, true, true, false, false, false, false, false, false, false, false, false, false, false, false, false] rfl rfl (by kernel_rfl) (fun _ _ _ h => h) (Or.inl ⟨by rfl, ?_⟩) ?_ ?_
        rotate_left
        · intro w'
          go_simp
          with_reducible rfl
        rotate_left
        · simp only [Act.put, List.setIfInBounds_toArray, List.set_cons_zero, List.set_cons_succ, i64_w, i32_w]
          rfl
        refine take_ (i := 15) (N := (some 55)) (v := .string s1) (a' := ?a15z) #[true, false, true, false, true, false, true, false, true, true, true, true, true, true, true, true, false, false, false, false, false, false, false, false, false, false, false, false] rfl rfl (by kernel_rfl) (fun _ _ _ h => h) ?hy15z hHeld ?ha15z ?hh15z
        case hy15z => exact Or.inl ⟨by rfl, fun w' hw' => by obtain ⟨y0, y1, y2, y3, y4⟩ := hw'; go_simp⟩
        case ha15z =>
          simp only [Act.put, List.setIfInBounds_toArray, List.set_cons_zero, List.set_cons_succ, i64_w, i32_w]
          rfl
        refine pure_ (i := 16) (N := (some 56)) (v := ?_) (a' := ?_) #[true, false, true, false, true, false, true, false, true, true, true, true, true, true, true, true, true, false, false, false, false, false, false, false, false, false, false, false] rfl rfl (by kernel_rfl) (fun _ _ _ h => h) (Or.inl ⟨by rfl, ?_⟩) ?_ ?_
        rotate_left
        · intro w'
          go_simp
          with_reducible rfl
        rotate_left
        · simp only [Act.put, List.setIfInBounds_toArray, List.set_cons_zero, List.set_cons_succ, i64_w, i32_w]
          rfl
        refine pure_ (i := 17) (N := (some 57)) (v := ?_) (a' := ?_) #[true, false, true, false, true, false, true, false, true, true, true, true, true, true, true, true, true, true, false, false, false, false, false, false, false, false, false, false] rfl rfl (by kernel_rfl) (fun _ _ _ h => h) (Or.inl ⟨by rfl, ?_⟩) ?_ ?_
        rotate_left
        · intro w'
          go_simp
          with_reducible rfl
        rotate_left
        · simp only [Act.put, List.setIfInBounds_toArray, List.set_cons_zero, List.set_cons_succ, i64_w, i32_w]
          rfl
        refine take_ (i := 18) (N := (some 58)) (v := .string s2) (a' := ?a18z) #[true, false, true, false, true, false, true, false, true, true, true, true, true, true, true, true, true, true, true, false, false, false, false, false, false, false, false, false] rfl rfl (by kernel_rfl) (fun _ _ _ h => h) ?hy18z hHeld ?ha18z ?hh18z
        case hy18z => exact Or.inl ⟨by rfl, fun w' hw' => by obtain ⟨y0, y1, y2, y3, y4⟩ := hw'; go_simp⟩
        case ha18z =>
          simp only [Act.put, List.setIfInBounds_toArray, List.set_cons_zero, List.set_cons_succ, i64_w, i32_w]
          rfl
        refine pure_ (i := 19) (N := (some 59)) (v := ?_) (a' := ?_) #[true, false, true, false, true, false, true, false, true, true, true, true, true, true, true, true, true, true, true, true, false, false, false, false, false, false, false, false] rfl rfl (by kernel_rfl) (fun _ _ _ h => h) (Or.inl ⟨by rfl, ?_⟩) ?_ ?_
        rotate_left
        · intro w'
          go_simp
          with_reducible rfl
        rotate_left
        · simp only [Act.put, List.setIfInBounds_toArray, List.set_cons_zero, List.set_cons_succ, i64_w, i32_w]
          rfl
        refine pure_ (i := 20) (N := (some 60)) (v := ?_) (a' := ?_) #[true, false, true, false, true, false, true, false, true, true, true, true, true, true, true, true, true, true, true, true, true, false, false, false, false, false, false, false] rfl rfl (by kernel_rfl) (fun _ _ _ h => h) (Or.inl ⟨by rfl, ?_⟩) ?_ ?_
        rotate_left
        · intro w'
          go_simp
          with_reducible rfl
        rotate_left
        · simp only [Act.put, List.setIfInBounds_toArray, List.set_cons_zero, List.set_cons_succ, i64_w, i32_w]
          rfl
        refine take_ (i := 21) (N := (some 61)) (v := .string s3) (a' := ?a21z) #[true, false, true, false, true, false, true, false, true, true, true, true, true, true, true, true, true, true, true, true, true, true, false, false, false, false, false, false] rfl rfl (by kernel_rfl) (fun _ _ _ h => h) ?hy21z hHeld ?ha21z ?hh21z
        case hy21z => exact Or.inl ⟨by rfl, fun w' hw' => by obtain ⟨y0, y1, y2, y3, y4⟩ := hw'; go_simp⟩
        case ha21z =>
          simp only [Act.put, List.setIfInBounds_toArray, List.set_cons_zero, List.set_cons_succ, i64_w, i32_w]
          rfl
        refine pure_ (i := 22) (N := (some 62)) (v := ?_) (a' := ?_) #[true, false, true, false, true, false, true, false, true, true, true, true, true, true, true, true, true, true, true, true, true, true, true, false, false, false, false, false] rfl rfl (by kernel_rfl) (fun _ _ _ h => h) (Or.inl ⟨by rfl, ?_⟩) ?_ ?_
        rotate_left
        · intro w'
          go_simp
          with_reducible rfl
        rotate_left
        · simp only [Act.put, List.setIfInBounds_toArray, List.set_cons_zero, List.set_cons_succ, i64_w, i32_w]
          rfl
        refine pure_ (i := 23) (N := (some 63)) (v := ?_) (a' := ?_) #[true, false, true, false, true, false, true, false, true, true, true, true, true, true, true, true, true, true, true, true, true, true, true, true, false, false, false, false] rfl rfl (by kernel_rfl) (fun _ _ _ h => h) (Or.inl ⟨by rfl, ?_⟩) ?_ ?_
        rotate_left
        · intro w'
          go_simp
          with_reducible rfl
        rotate_left
        · simp only [Act.put, List.setIfInBounds_toArray, List.set_cons_zero, List.set_cons_succ, i64_w, i32_w]
          rfl
        refine take_ (i := 24) (N := (some 64)) (v := .string s4) (a' := ?a24z) #[true, false, true, false, true, false, true, false, true, true, true, true, true, true, true, true, true, true, true, true, true, true, true, true, true, false, false, false] rfl rfl (by kernel_rfl) (fun _ _ _ h => h) ?hy24z hHeld ?ha24z ?hh24z
        case hy24z => exact Or.inl ⟨by rfl, fun w' hw' => by obtain ⟨y0, y1, y2, y3, y4⟩ := hw'; go_simp⟩
        case ha24z =>
          simp only [Act.put, List.setIfInBounds_toArray, List.set_cons_zero, List.set_cons_succ, i64_w, i32_w]
          rfl
        refine two_ (i := 1) (j := 26) (Ni := some 41) (Nj := some 11) #[true, true, true, false, true, false, true, false, true, true, true, true, true, true, true, true, true, true, true, true, true, true, true, true, true, false, false, false] #[true, false, true, false, true, false, true, false, true, true, true, true, true, true, true, true, true, true, true, true, true, true, true, true, true, false, true, false] rfl rfl rfl rfl (by kernel_rfl) (by decide) (by decide) (fun K hK => ?_) (fun K hK => ?_)
        ·
          refine goes_ Try.func25 (by kernel_rfl) rfl #[.slice A0 b.length c0, .int .i64 0] (by rfl) rfl rfl (by (try simp only [List.map_toArray, List.map_cons, List.map_nil]); first | done | rfl) ?_
          with_reducible refine (shardlogref01_At.calls A0 c0 b 0 n0 _ (Kd.C_below HC4.out HB6.out) hc4 K0.out).mono ?_
          rintro e w9 ⟨rfl, hdr⟩
          refine ⟨_, rfl, ?_⟩
          have hb9 := hdr.below
          have ms := Aside0.mk (show (fun w' => w'.cell? ⟨g5, 0, none⟩ = some (.string s0) ∧ w'.cell? ⟨g5, 1, none⟩ = some (.string s1) ∧ w'.cell? ⟨g5, 2, none⟩ = some (.string s2) ∧ w'.cell? ⟨g5, 3, none⟩ = some (.string s3) ∧ w'.cell? ⟨g5, 4, none⟩ = some (.string s4)) w9 from by obtain ⟨y0, y1, y2, y3, y4⟩ := HS.out; exact ⟨(hb9.cell (World.block_lt_of_cell? _ _ y0)).trans y0, (hb9.cell (World.block_lt_of_cell? _ _ y1)).trans y1, (hb9.cell (World.block_lt_of_cell? _ _ y2)).trans y2, (hb9.cell (World.block_lt_of_cell? _ _ y3)).trans y3, (hb9.cell (World.block_lt_of_cell? _ _ y4)).trans y4⟩); have mb := Aside0.mk (below_step HB6.out hb9); clear HS HB6; have HS := ms; have HB6 := mb; clear ms mb
          clear hb9 hdr
          refine hK.out _ _ HS.out (fun hHeld => ?_)
          clear hK K
          refine norm_ (a' := ?_) ?_ ?_
          rotate_left
          · show Act.put _ (some 41) _ = _
            simp only [Act.put, List.setIfInBounds_toArray, List.set_cons_zero, List.set_cons_succ, i64_w, i32_w]
            rfl
          refine two_ (i := 3) (j := 26) (Ni := some 43) (Nj := some 11) #[true, true, true, true, true, false, true, false, true, true, true, true, true, true, true, true, true, true, true, true, true, true, true, true, true, false, false, false] #[true, true, true, false, true, false, true, false, true, true, true, true, true, true, true, true, true, true, true, true, true, true, true, true, true, false, true, false] rfl rfl rfl rfl (by kernel_rfl) (by decide) (by decide) (fun K hK => ?_) (fun K hK => ?_)
          ·
            refine goes_ Try.func25 (by kernel_rfl) rfl #[.slice A0 b.length c0, .int .i64 4] (by rfl) rfl rfl (by (try simp only [List.map_toArray, List.map_cons, List.map_nil]); first | done | rfl) ?_
            with_reducible refine (shardlogref01_At.calls A0 c0 b 4 n1 _ (Kd.C_below HC4.out HB6.out) hc4 K1.out).mono ?_
            rintro e w9 ⟨rfl, hdr⟩
            refine ⟨_, rfl, ?_⟩
            have hb9 := hdr.below
            have ms := Aside0.mk (show (fun w' => w'.cell? ⟨g5, 0, none⟩ = some (.string s0) ∧ w'.cell? ⟨g5, 1, none⟩ = some (.string s1) ∧ w'.cell? ⟨g5, 2, none⟩ = some (.string s2) ∧ w'.cell? ⟨g5, 3, none⟩ = some (.string s3) ∧ w'.cell? ⟨g5, 4, none⟩ = some (.string s4)) w9 from by obtain ⟨y0, y1, y2, y3, y4⟩ := HS.out; exact ⟨(hb9.cell (World.block_lt_of_cell? _ _ y0)).trans y0, (hb9.cell (World.block_lt_of_cell? _ _ y1)).trans y1, (hb9.cell (World.block_lt_of_cell? _ _ y2)).trans y2, (hb9.cell (World.block_lt_of_cell? _ _ y3)).trans y3, (hb9.cell (World.block_lt_of_cell? _ _ y4)).trans y4⟩); have mb := Aside0.mk (below_step HB6.out hb9); clear HS HB6; have HS := ms; have HB6 := mb; clear ms mb
            clear hb9 hdr
            refine hK.out _ _ HS.out (fun hHeld => ?_)
            clear hK K
            refine norm_ (a' := ?_) ?_ ?_
            rotate_left
            · show Act.put _ (some 43) _ = _
              simp only [Act.put, List.setIfInBounds_toArray, List.set_cons_zero, List.set_cons_succ, i64_w, i32_w]
              rfl
            refine two_ (i := 5) (j := 26) (Ni := some 45) (Nj := some 11) #[true, true, true, true, true, true, true, false, true, true, true, true, true, true, true, true, true, true, true, true, true, true, true, true, true, false, false, false] #[true, true, true, true, true, false, true, false, true, true, true, true, true, true, true, true, true, true, true, true, true, true, true, true, true, false, true, false] rfl rfl rfl rfl (by kernel_rfl) (by decide) (by decide) (fun K hK => ?_) (fun K hK => ?_)
            ·
              refine goes_ Try.func25 (by kernel_rfl) rfl #[.slice A0 b.length c0, .int .i64 8] (by rfl) rfl rfl (by (try simp only [List.map_toArray, List.map_cons, List.map_nil]); first | done | rfl) ?_
              with_reducible refine (shardlogref01_At.calls A0 c0 b 8 n2 _ (Kd.C_below HC4.out HB6.out) hc4 K2.out).mono ?_
              rintro e w9 ⟨rfl, hdr⟩
              refine ⟨_, rfl, ?_⟩
              have hb9 := hdr.below
              have ms := Aside0.mk (show (fun w' => w'.cell? ⟨g5, 0, none⟩ = some (.string s0) ∧ w'.cell? ⟨g5, 1, none⟩ = some (.string s1) ∧ w'.cell? ⟨g5, 2, none⟩ = some (.string s2) ∧ w'.cell? ⟨g5, 3, none⟩ = some (.string s3) ∧ w'.cell? ⟨g5, 4, none⟩ = some (.string s4)) w9 from by obtain ⟨y0, y1, y2, y3, y4⟩ := HS.out; exact ⟨(hb9.cell (World.block_lt_of_cell? _ _ y0)).trans y0, (hb9.cell (World.block_lt_of_cell? _ _ y1)).trans y1, (hb9.cell (World.block_lt_of_cell? _ _ y2)).trans y2, (hb9.cell (World.block_lt_of_cell? _ _ y3)).trans y3, (hb9.cell (World.block_lt_of_cell? _ _ y4)).trans y4⟩); have mb := Aside0.mk (below_step HB6.out hb9); clear HS HB6; have HS := ms; have HB6 := mb; clear ms mb
              clear hb9 hdr
              refine hK.out _ _ HS.out (fun hHeld => ?_)
              clear hK K
              refine norm_ (a' := ?_) ?_ ?_
              rotate_left
              · show Act.put _ (some 45) _ = _
                simp only [Act.put, List.setIfInBounds_toArray, List.set_cons_zero, List.set_cons_succ, i64_w, i32_w]
                rfl
              refine two_ (i := 7) (j := 26) (Ni := some 47) (Nj := some 11) #[true, true, true, true, true, true, true, true, true, true, true, true, true, true, true, true, true, true, true, true, true, true, true, true, true, false, false, false] #[true, true, true, true, true, true, true, false, true, true, true, true, true, true, true, true, true, true, true, true, true, true, true, true, true, false, true, false] rfl rfl rfl rfl (by kernel_rfl) (by decide) (by decide) (fun K hK => ?_) (fun K hK => ?_)
              ·
                refine goes_ Try.func25 (by kernel_rfl) rfl #[.slice A0 b.length c0, .int .i64 12] (by rfl) rfl rfl (by (try simp only [List.map_toArray, List.map_cons, List.map_nil]); first | done | rfl) ?_
                with_reducible refine (shardlogref01_At.calls A0 c0 b 12 n3 _ (Kd.C_below HC4.out HB6.out) hc4 K3.out).mono ?_
                rintro e w9 ⟨rfl, hdr⟩
                refine ⟨_, rfl, ?_⟩
                have hb9 := hdr.below
                have ms := Aside0.mk (show (fun w' => w'.cell? ⟨g5, 0, none⟩ = some (.string s0) ∧ w'.cell? ⟨g5, 1, none⟩ = some (.string s1) ∧ w'.cell? ⟨g5, 2, none⟩ = some (.string s2) ∧ w'.cell? ⟨g5, 3, none⟩ = some (.string s3) ∧ w'.cell? ⟨g5, 4, none⟩ = some (.string s4)) w9 from by obtain ⟨y0, y1, y2, y3, y4⟩ := HS.out; exact ⟨(hb9.cell (World.block_lt_of_cell? _ _ y0)).trans y0, (hb9.cell (World.block_lt_of_cell? _ _ y1)).trans y1, (hb9.cell (World.block_lt_of_cell? _ _ y2)).trans y2, (hb9.cell (World.block_lt_of_cell? _ _ y3)).trans y3, (hb9.cell (World.block_lt_of_cell? _ _ y4)).trans y4⟩); have mb := Aside0.mk (below_step HB6.out hb9); clear HS HB6; have HS := ms; have HB6 := mb; clear ms mb
                clear hb9 hdr
                refine hK.out _ _ HS.out (fun hHeld => ?_)
                clear hK K
                refine norm_ (a' := ?_) ?_ ?_
                rotate_left
                · show Act.put _ (some 47) _ = _
                  simp only [Act.put, List.setIfInBounds_toArray, List.set_cons_zero, List.set_cons_succ, i64_w, i32_w]
                  rfl
                refine pure_ (i := 25) (N := some 65) (v := .agg #[.int .i64 n0, .int .i64 n1, .int .i64 n2, .string s0, .string s1, .string s2, .int .i64 n3, .string s3, .string s4, .bool (n4 == 1)]) (a' := ?qa1) #[true, true, true, true, true, true, true, true, true, true, true, true, true, true, true, true, true, true, true, true, true, true, true, true, true, true, false, false] rfl rfl (by kernel_rfl) (fun _ _ _ h => h) (Or.inl ⟨by rfl, ?qy1⟩) ?qb1 ?qh1
                case qy1 =>
                  intro w'
                  go_simp
                case qb1 =>
                  simp only [Act.put, List.setIfInBounds_toArray, List.set_cons_zero, List.set_cons_succ, i64_w, i32_w]
                  rfl
                refine one_ (i := 26) (N := some 11) #[true, true, true, true, true, true, true, true, true, true, true, true, true, true, true, true, true, true, true, true, true, true, true, true, true, true, true, false] rfl rfl (by kernel_rfl) (by decide) (fun K hK => ?_)
                refine box_step (by rfl) (N := 11) rfl (cs := #[.int .i64 0, .int .i64 0, .int .i64 0, .string ⟨#[]⟩, .string ⟨#[]⟩, .string ⟨#[]⟩, .int .i64 0, .string ⟨#[]⟩, .string ⟨#[]⟩, .bool false]) (t := 23) ?hr4 ?_
                · (first | (go_simp; done) | (go_simp; rfl))
                intro g11 hg w9 hbox hb9
                have G11 := Aside0.mk (show w4.heap.size ≤ g11 from by rw [hg]; exact HB6.out.size)
                have ms := Aside0.mk (show (fun w' => w'.cell? ⟨g5, 0, none⟩ = some (.string s0) ∧ w'.cell? ⟨g5, 1, none⟩ = some (.string s1) ∧ w'.cell? ⟨g5, 2, none⟩ = some (.string s2) ∧ w'.cell? ⟨g5, 3, none⟩ = some (.string s3) ∧ w'.cell? ⟨g5, 4, none⟩ = some (.string s4)) w9 from by obtain ⟨y0, y1, y2, y3, y4⟩ := HS.out; exact ⟨(hb9.cell (World.block_lt_of_cell? _ _ y0)).trans y0, (hb9.cell (World.block_lt_of_cell? _ _ y1)).trans y1, (hb9.cell (World.block_lt_of_cell? _ _ y2)).trans y2, (hb9.cell (World.block_lt_of_cell? _ _ y3)).trans y3, (hb9.cell (World.block_lt_of_cell? _ _ y4)).trans y4⟩); have mb := Aside0.mk (below_step HB6.out hb9); clear HS HB6; have HS := ms; have HB6 := mb; clear ms mb
                have B11 := Aside0.mk hbox
                clear hb9 hbox hg
                refine hK.out _ _ HS.out (fun hHeld => ?_)
                clear hK K
                refine norm_ (a' := ?_) ?_ ?_
                rotate_left
                · show Act.put _ (some 11) _ = _
                  simp only [Act.put, List.setIfInBounds_toArray, List.set_cons_zero, List.set_cons_succ, i64_w, i32_w]
                  rfl
                refine last_ (i := 27) (N := none) #[true, true, true, true, true, true, true, true, true, true, true, true, true, true, true, true, true, true, true, true, true, true, true, true, true, true, true, true] rfl rfl (by kernel_rfl) (by decide) (fun K hK => ?_)
                rw [if_pos (by rfl)]
                refine wp_store_row 23 _ _ rfl g11 #[.int .i64 n0, .int .i64 n1, .int .i64 n2, .string s0, .string s1, .string s2, .int .i64 n3, .string s3, .string s4, .bool (n4 == 1)] rfl rfl 23 _ B11.out (by kernel_rfl) rfl (by kernel_rfl) ?_
                have hq := Aside0.mk (setRow_heap _ g11 _ #[.int .i64 n0, .int .i64 n1, .int .i64 n2, .string s0, .string s1, .string s2, .int .i64 n3, .string s3, .string s4, .bool (n4 == 1)] _ _ B11.out)
                have hbq := Aside0.mk (below_setRow HB6.out G11.out #[.int .i64 n0, .int .i64 n1, .int .i64 n2, .string s0, .string s1, .string s2, .int .i64 n3, .string s3, .string s4, .bool (n4 == 1)])
                refine hK.out _ _ ?_
                clear hK K
                refine done_ (by kernel_rfl) ?_
                try go_wp2
                go_meet
                case rel => exact ⟨g11, rfl, hq, hbq, G11⟩
              ·
                refine box_step (by rfl) (N := 11) rfl (cs := #[.int .i64 0, .int .i64 0, .int .i64 0, .string ⟨#[]⟩, .string ⟨#[]⟩, .string ⟨#[]⟩, .int .i64 0, .string ⟨#[]⟩, .string ⟨#[]⟩, .bool false]) (t := 23) ?hr3 ?_
                · (first | (go_simp; done) | (go_simp; rfl))
                intro g11 hg w9 hbox hb9
                have G11 := Aside0.mk (show w4.heap.size ≤ g11 from by rw [hg]; exact HB6.out.size)
                have ms := Aside0.mk (show (fun w' => w'.cell? ⟨g5, 0, none⟩ = some (.string s0) ∧ w'.cell? ⟨g5, 1, none⟩ = some (.string s1) ∧ w'.cell? ⟨g5, 2, none⟩ = some (.string s2) ∧ w'.cell? ⟨g5, 3, none⟩ = some (.string s3) ∧ w'.cell? ⟨g5, 4, none⟩ = some (.string s4)) w9 from by obtain ⟨y0, y1, y2, y3, y4⟩ := HS.out; exact ⟨(hb9.cell (World.block_lt_of_cell? _ _ y0)).trans y0, (hb9.cell (World.block_lt_of_cell? _ _ y1)).trans y1, (hb9.cell (World.block_lt_of_cell? _ _ y2)).trans y2, (hb9.cell (World.block_lt_of_cell? _ _ y3)).trans y3, (hb9.cell (World.block_lt_of_cell? _ _ y4)).trans y4⟩); have mb := Aside0.mk (below_step HB6.out hb9); clear HS HB6; have HS := ms; have HB6 := mb; clear ms mb
                have B11 := Aside0.mk hbox
                clear hb9 hbox hg
                refine hK.out _ _ HS.out (fun hHeld => ?_)
                clear hK K
                refine norm_ (a' := ?_) ?_ ?_
                rotate_left
                · show Act.put _ (some 11) _ = _
                  simp only [Act.put, List.setIfInBounds_toArray, List.set_cons_zero, List.set_cons_succ, i64_w, i32_w]
                  rfl
                refine one_ (i := 7) (N := some 47) #[true, true, true, true, true, true, true, true, true, true, true, true, true, true, true, true, true, true, true, true, true, true, true, true, true, false, true, false] rfl rfl (by kernel_rfl) (by decide) (fun K hK => ?_)
                refine goes_ Try.func25 (by kernel_rfl) rfl #[.slice A0 b.length c0, .int .i64 12] (by rfl) rfl rfl (by (try simp only [List.map_toArray, List.map_cons, List.map_nil]); first | done | rfl) ?_
                with_reducible refine (shardlogref01_At.calls A0 c0 b 12 n3 _ (Kd.C_below HC4.out HB6.out) hc4 K3.out).mono ?_
                rintro e w9 ⟨rfl, hdr⟩
                refine ⟨_, rfl, ?_⟩
                have hb9 := hdr.below
                have ms := Aside0.mk (show (fun w' => w'.cell? ⟨g5, 0, none⟩ = some (.string s0) ∧ w'.cell? ⟨g5, 1, none⟩ = some (.string s1) ∧ w'.cell? ⟨g5, 2, none⟩ = some (.string s2) ∧ w'.cell? ⟨g5, 3, none⟩ = some (.string s3) ∧ w'.cell? ⟨g5, 4, none⟩ = some (.string s4)) w9 from by obtain ⟨y0, y1, y2, y3, y4⟩ := HS.out; exact ⟨(hb9.cell (World.block_lt_of_cell? _ _ y0)).trans y0, (hb9.cell (World.block_lt_of_cell? _ _ y1)).trans y1, (hb9.cell (World.block_lt_of_cell? _ _ y2)).trans y2, (hb9.cell (World.block_lt_of_cell? _ _ y3)).trans y3, (hb9.cell (World.block_lt_of_cell? _ _ y4)).trans y4⟩); have mb := Aside0.mk (below_step HB6.out hb9); clear HS HB6; have HS := ms; have HB6 := mb; clear ms mb
                have m1 := Aside0.mk (blk_below B11.out hb9); clear B11; have B11 := m1; clear m1
                clear hb9 hdr
                refine hK.out _ _ HS.out (fun hHeld => ?_)
                clear hK K
                refine norm_ (a' := ?_) ?_ ?_
                rotate_left
                · show Act.put _ (some 47) _ = _
                  simp only [Act.put, List.setIfInBounds_toArray, List.set_cons_zero, List.set_cons_succ, i64_w, i32_w]
                  rfl
                refine pure_ (i := 25) (N := some 65) (v := .agg #[.int .i64 n0, .int .i64 n1, .int .i64 n2, .string s0, .string s1, .string s2, .int .i64 n3, .string s3, .string s4, .bool (n4 == 1)]) (a' := ?qa2) #[true, true, true, true, true, true, true, true, true, true, true, true, true, true, true, true, true, true, true, true, true, true, true, true, true, true, true, false] rfl rfl (by kernel_rfl) (fun _ _ _ h => h) (Or.inl ⟨by rfl, ?qy2⟩) ?qb2 ?qh2
                case qy2 =>
                  intro w'
                  go_simp
                case qb2 =>
                  simp only [Act.put, List.setIfInBounds_toArray, List.set_cons_zero, List.set_cons_succ, i64_w, i32_w]
                  rfl
                refine last_ (i := 27) (N := none) #[true, true, true, true, true, true, true, true, true, true, true, true, true, true, true, true, true, true, true, true, true, true, true, true, true, true, true, true] rfl rfl (by kernel_rfl) (by decide) (fun K hK => ?_)
                rw [if_pos (by rfl)]
                refine wp_store_row 23 _ _ rfl g11 #[.int .i64 n0, .int .i64 n1, .int .i64 n2, .string s0, .string s1, .string s2, .int .i64 n3, .string s3, .string s4, .bool (n4 == 1)] rfl rfl 23 _ B11.out (by kernel_rfl) rfl (by kernel_rfl) ?_
                have hq := Aside0.mk (setRow_heap _ g11 _ #[.int .i64 n0, .int .i64 n1, .int .i64 n2, .string s0, .string s1, .string s2, .int .i64 n3, .string s3, .string s4, .bool (n4 == 1)] _ _ B11.out)
                have hbq := Aside0.mk (below_setRow HB6.out G11.out #[.int .i64 n0, .int .i64 n1, .int .i64 n2, .string s0, .string s1, .string s2, .int .i64 n3, .string s3, .string s4, .bool (n4 == 1)])
                refine hK.out _ _ ?_
                clear hK K
                refine done_ (by kernel_rfl) ?_
                try go_wp2
                go_meet
                case rel => exact ⟨g11, rfl, hq, hbq, G11⟩
            ·
              refine box_step (by rfl) (N := 11) rfl (cs := #[.int .i64 0, .int .i64 0, .int .i64 0, .string ⟨#[]⟩, .string ⟨#[]⟩, .string ⟨#[]⟩, .int .i64 0, .string ⟨#[]⟩, .string ⟨#[]⟩, .bool false]) (t := 23) ?hr2 ?_
              · (first | (go_simp; done) | (go_simp; rfl))
              intro g11 hg w9 hbox hb9
              have G11 := Aside0.mk (show w4.heap.size ≤ g11 from by rw [hg]; exact HB6.out.size)
              have ms := Aside0.mk (show (fun w' => w'.cell? ⟨g5, 0, none⟩ = some (.string s0) ∧ w'.cell? ⟨g5, 1, none⟩ = some (.string s1) ∧ w'.cell? ⟨g5, 2, none⟩ = some (.string s2) ∧ w'.cell? ⟨g5, 3, none⟩ = some (.string s3) ∧ w'.cell? ⟨g5, 4, none⟩ = some (.string s4)) w9 from by obtain ⟨y0, y1, y2, y3, y4⟩ := HS.out; exact ⟨(hb9.cell (World.block_lt_of_cell? _ _ y0)).trans y0, (hb9.cell (World.block_lt_of_cell? _ _ y1)).trans y1, (hb9.cell (World.block_lt_of_cell? _ _ y2)).trans y2, (hb9.cell (World.block_lt_of_cell? _ _ y3)).trans y3, (hb9.cell (World.block_lt_of_cell? _ _ y4)).trans y4⟩); have mb := Aside0.mk (below_step HB6.out hb9); clear HS HB6; have HS := ms; have HB6 := mb; clear ms mb
              have B11 := Aside0.mk hbox
              clear hb9 hbox hg
              refine hK.out _ _ HS.out (fun hHeld => ?_)
              clear hK K
              refine norm_ (a' := ?_) ?_ ?_
              rotate_left
              · show Act.put _ (some 11) _ = _
                simp only [Act.put, List.setIfInBounds_toArray, List.set_cons_zero, List.set_cons_succ, i64_w, i32_w]
                rfl
              refine one_ (i := 5) (N := some 45) #[true, true, true, true, true, true, true, false, true, true, true, true, true, true, true, true, true, true, true, true, true, true, true, true, true, false, true, false] rfl rfl (by kernel_rfl) (by decide) (fun K hK => ?_)
              refine goes_ Try.func25 (by kernel_rfl) rfl #[.slice A0 b.length c0, .int .i64 8] (by rfl) rfl rfl (by (try simp only [List.map_toArray, List.map_cons, List.map_nil]); first | done | rfl) ?_
              with_reducible refine (shardlogref01_At.calls A0 c0 b 8 n2 _ (Kd.C_below HC4.out HB6.out) hc4 K2.out).mono ?_
              rintro e w9 ⟨rfl, hdr⟩
              refine ⟨_, rfl, ?_⟩
              have hb9 := hdr.below
              have ms := Aside0.mk (show (fun w' => w'.cell? ⟨g5, 0, none⟩ = some (.string s0) ∧ w'.cell? ⟨g5, 1, none⟩ = some (.string s1) ∧ w'.cell? ⟨g5, 2, none⟩ = some (.string s2) ∧ w'.cell? ⟨g5, 3, none⟩ = some (.string s3) ∧ w'.cell? ⟨g5, 4, none⟩ = some (.string s4)) w9 from by obtain ⟨y0, y1, y2, y3, y4⟩ := HS.out; exact ⟨(hb9.cell (World.block_lt_of_cell? _ _ y0)).trans y0, (hb9.cell (World.block_lt_of_cell? _ _ y1)).trans y1, (hb9.cell (World.block_lt_of_cell? _ _ y2)).trans y2, (hb9.cell (World.block_lt_of_cell? _ _ y3)).trans y3, (hb9.cell (World.block_lt_of_cell? _ _ y4)).trans y4⟩); have mb := Aside0.mk (below_step HB6.out hb9); clear HS HB6; have HS := ms; have HB6 := mb; clear ms mb
              have m1 := Aside0.mk (blk_below B11.out hb9); clear B11; have B11 := m1; clear m1
              clear hb9 hdr
              refine hK.out _ _ HS.out (fun hHeld => ?_)
              clear hK K
              refine norm_ (a' := ?_) ?_ ?_
              rotate_left
              · show Act.put _ (some 45) _ = _
                simp only [Act.put, List.setIfInBounds_toArray, List.set_cons_zero, List.set_cons_succ, i64_w, i32_w]
                rfl
              refine one_ (i := 7) (N := some 47) #[true, true, true, true, true, true, true, true, true, true, true, true, true, true, true, true, true, true, true, true, true, true, true, true, true, false, true, false] rfl rfl (by kernel_rfl) (by decide) (fun K hK => ?_)
              refine goes_ Try.func25 (by kernel_rfl) rfl #[.slice A0 b.length c0, .int .i64 12] (by rfl) rfl rfl (by (try simp only [List.map_toArray, List.map_cons, List.map_nil]); first | done | rfl) ?_
              with_reducible refine (shardlogref01_At.calls A0 c0 b 12 n3 _ (Kd.C_below HC4.out HB6.out) hc4 K3.out).mono ?_
              rintro e w9 ⟨rfl, hdr⟩
              refine ⟨_, rfl, ?_⟩
              have hb9 := hdr.below
              have ms := Aside0.mk (show (fun w' => w'.cell? ⟨g5, 0, none⟩ = some (.string s0) ∧ w'.cell? ⟨g5, 1, none⟩ = some (.string s1) ∧ w'.cell? ⟨g5, 2, none⟩ = some (.string s2) ∧ w'.cell? ⟨g5, 3, none⟩ = some (.string s3) ∧ w'.cell? ⟨g5, 4, none⟩ = some (.string s4)) w9 from by obtain ⟨y0, y1, y2, y3, y4⟩ := HS.out; exact ⟨(hb9.cell (World.block_lt_of_cell? _ _ y0)).trans y0, (hb9.cell (World.block_lt_of_cell? _ _ y1)).trans y1, (hb9.cell (World.block_lt_of_cell? _ _ y2)).trans y2, (hb9.cell (World.block_lt_of_cell? _ _ y3)).trans y3, (hb9.cell (World.block_lt_of_cell? _ _ y4)).trans y4⟩); have mb := Aside0.mk (below_step HB6.out hb9); clear HS HB6; have HS := ms; have HB6 := mb; clear ms mb
              have m1 := Aside0.mk (blk_below B11.out hb9); clear B11; have B11 := m1; clear m1
              clear hb9 hdr
              refine hK.out _ _ HS.out (fun hHeld => ?_)
              clear hK K
              refine norm_ (a' := ?_) ?_ ?_
              rotate_left
              · show Act.put _ (some 47) _ = _
                simp only [Act.put, List.setIfInBounds_toArray, List.set_cons_zero, List.set_cons_succ, i64_w, i32_w]
                rfl
              refine pure_ (i := 25) (N := some 65) (v := .agg #[.int .i64 n0, .int .i64 n1, .int .i64 n2, .string s0, .string s1, .string s2, .int .i64 n3, .string s3, .string s4, .bool (n4 == 1)]) (a' := ?qa3) #[true, true, true, true, true, true, true, true, true, true, true, true, true, true, true, true, true, true, true, true, true, true, true, true, true, true, true, false] rfl rfl (by kernel_rfl) (fun _ _ _ h => h) (Or.inl ⟨by rfl, ?qy3⟩) ?qb3 ?qh3
              case qy3 =>
                intro w'
                go_simp
              case qb3 =>
                simp only [Act.put, List.setIfInBounds_toArray, List.set_cons_zero, List.set_cons_succ, i64_w, i32_w]
                rfl
              refine last_ (i := 27) (N := none) #[true, true, true, true, true, true, true, true, true, true, true, true, true, true, true, true, true, true, true, true, true, true, true, true, true, true, true, true] rfl rfl (by kernel_rfl) (by decide) (fun K hK => ?_)
              rw [if_pos (by rfl)]
              refine wp_store_row 23 _ _ rfl g11 #[.int .i64 n0, .int .i64 n1, .int .i64 n2, .string s0, .string s1, .string s2, .int .i64 n3, .string s3, .string s4, .bool (n4 == 1)] rfl rfl 23 _ B11.out (by kernel_rfl) rfl (by kernel_rfl) ?_
              have hq := Aside0.mk (setRow_heap _ g11 _ #[.int .i64 n0, .int .i64 n1, .int .i64 n2, .string s0, .string s1, .string s2, .int .i64 n3, .string s3, .string s4, .bool (n4 == 1)] _ _ B11.out)
              have hbq := Aside0.mk (below_setRow HB6.out G11.out #[.int .i64 n0, .int .i64 n1, .int .i64 n2, .string s0, .string s1, .string s2, .int .i64 n3, .string s3, .string s4, .bool (n4 == 1)])
              refine hK.out _ _ ?_
              clear hK K
              refine done_ (by kernel_rfl) ?_
              try go_wp2
              go_meet
              case rel => exact ⟨g11, rfl, hq, hbq, G11⟩
          ·
            refine box_step (by rfl) (N := 11) rfl (cs := #[.int .i64 0, .int .i64 0, .int .i64 0, .string ⟨#[]⟩, .string ⟨#[]⟩, .string ⟨#[]⟩, .int .i64 0, .string ⟨#[]⟩, .string ⟨#[]⟩, .bool false]) (t := 23) ?hr1 ?_
            · (first | (go_simp; done) | (go_simp; rfl))
            intro g11 hg w9 hbox hb9
            have G11 := Aside0.mk (show w4.heap.size ≤ g11 from by rw [hg]; exact HB6.out.size)
            have ms := Aside0.mk (show (fun w' => w'.cell? ⟨g5, 0, none⟩ = some (.string s0) ∧ w'.cell? ⟨g5, 1, none⟩ = some (.string s1) ∧ w'.cell? ⟨g5, 2, none⟩ = some (.string s2) ∧ w'.cell? ⟨g5, 3, none⟩ = some (.string s3) ∧ w'.cell? ⟨g5, 4, none⟩ = some (.string s4)) w9 from by obtain ⟨y0, y1, y2, y3, y4⟩ := HS.out; exact ⟨(hb9.cell (World.block_lt_of_cell? _ _ y0)).trans y0, (hb9.cell (World.block_lt_of_cell? _ _ y1)).trans y1, (hb9.cell (World.block_lt_of_cell? _ _ y2)).trans y2, (hb9.cell (World.block_lt_of_cell? _ _ y3)).trans y3, (hb9.cell (World.block_lt_of_cell? _ _ y4)).trans y4⟩); have mb := Aside0.mk (below_step HB6.out hb9); clear HS HB6; have HS := ms; have HB6 := mb; clear ms mb
            have B11 := Aside0.mk hbox
            clear hb9 hbox hg
            refine hK.out _ _ HS.out (fun hHeld => ?_)
            clear hK K
            refine norm_ (a' := ?_) ?_ ?_
            rotate_left
            · show Act.put _ (some 11) _ = _
              simp only [Act.put, List.setIfInBounds_toArray, List.set_cons_zero, List.set_cons_succ, i64_w, i32_w]
              rfl
            refine one_ (i := 3) (N := some 43) #[true, true, true, true, true, false, true, false, true, true, true, true, true, true, true, true, true, true, true, true, true, true, true, true, true, false, true, false] rfl rfl (by kernel_rfl) (by decide) (fun K hK => ?_)
            refine goes_ Try.func25 (by kernel_rfl) rfl #[.slice A0 b.length c0, .int .i64 4] (by rfl) rfl rfl (by (try simp only [List.map_toArray, List.map_cons, List.map_nil]); first | done | rfl) ?_
            with_reducible refine (shardlogref01_At.calls A0 c0 b 4 n1 _ (Kd.C_below HC4.out HB6.out) hc4 K1.out).mono ?_
            rintro e w9 ⟨rfl, hdr⟩
            refine ⟨_, rfl, ?_⟩
            have hb9 := hdr.below
            have ms := Aside0.mk (show (fun w' => w'.cell? ⟨g5, 0, none⟩ = some (.string s0) ∧ w'.cell? ⟨g5, 1, none⟩ = some (.string s1) ∧ w'.cell? ⟨g5, 2, none⟩ = some (.string s2) ∧ w'.cell? ⟨g5, 3, none⟩ = some (.string s3) ∧ w'.cell? ⟨g5, 4, none⟩ = some (.string s4)) w9 from by obtain ⟨y0, y1, y2, y3, y4⟩ := HS.out; exact ⟨(hb9.cell (World.block_lt_of_cell? _ _ y0)).trans y0, (hb9.cell (World.block_lt_of_cell? _ _ y1)).trans y1, (hb9.cell (World.block_lt_of_cell? _ _ y2)).trans y2, (hb9.cell (World.block_lt_of_cell? _ _ y3)).trans y3, (hb9.cell (World.block_lt_of_cell? _ _ y4)).trans y4⟩); have mb := Aside0.mk (below_step HB6.out hb9); clear HS HB6; have HS := ms; have HB6 := mb; clear ms mb
            have m1 := Aside0.mk (blk_below B11.out hb9); clear B11; have B11 := m1; clear m1
            clear hb9 hdr
            refine hK.out _ _ HS.out (fun hHeld => ?_)
            clear hK K
            refine norm_ (a' := ?_) ?_ ?_
            rotate_left
            · show Act.put _ (some 43) _ = _
              simp only [Act.put, List.setIfInBounds_toArray, List.set_cons_zero, List.set_cons_succ, i64_w, i32_w]
              rfl
            refine one_ (i := 5) (N := some 45) #[true, true, true, true, true, true, true, false, true, true, true, true, true, true, true, true, true, true, true, true, true, true, true, true, true, false, true, false] rfl rfl (by kernel_rfl) (by decide) (fun K hK => ?_)
            refine goes_ Try.func25 (by kernel_rfl) rfl #[.slice A0 b.length c0, .int .i64 8] (by rfl) rfl rfl (by (try simp only [List.map_toArray, List.map_cons, List.map_nil]); first | done | rfl) ?_
            with_reducible refine (shardlogref01_At.calls A0 c0 b 8 n2 _ (Kd.C_below HC4.out HB6.out) hc4 K2.out).mono ?_
            rintro e w9 ⟨rfl, hdr⟩
            refine ⟨_, rfl, ?_⟩
            have hb9 := hdr.below
            have ms := Aside0.mk (show (fun w' => w'.cell? ⟨g5, 0, none⟩ = some (.string s0) ∧ w'.cell? ⟨g5, 1, none⟩ = some (.string s1) ∧ w'.cell? ⟨g5, 2, none⟩ = some (.string s2) ∧ w'.cell? ⟨g5, 3, none⟩ = some (.string s3) ∧ w'.cell? ⟨g5, 4, none⟩ = some (.string s4)) w9 from by obtain ⟨y0, y1, y2, y3, y4⟩ := HS.out; exact ⟨(hb9.cell (World.block_lt_of_cell? _ _ y0)).trans y0, (hb9.cell (World.block_lt_of_cell? _ _ y1)).trans y1, (hb9.cell (World.block_lt_of_cell? _ _ y2)).trans y2, (hb9.cell (World.block_lt_of_cell? _ _ y3)).trans y3, (hb9.cell (World.block_lt_of_cell? _ _ y4)).trans y4⟩); have mb := Aside0.mk (below_step HB6.out hb9); clear HS HB6; have HS := ms; have HB6 := mb; clear ms mb
            have m1 := Aside0.mk (blk_below B11.out hb9); clear B11; have B11 := m1; clear m1
            clear hb9 hdr
            refine hK.out _ _ HS.out (fun hHeld => ?_)
            clear hK K
            refine norm_ (a' := ?_) ?_ ?_
            rotate_left
            · show Act.put _ (some 45) _ = _
              simp only [Act.put, List.setIfInBounds_toArray, List.set_cons_zero, List.set_cons_succ, i64_w, i32_w]
              rfl
            refine one_ (i := 7) (N := some 47) #[true, true, true, true, true, true, true, true, true, true, true, true, true, true, true, true, true, true, true, true, true, true, true, true, true, false, true, false] rfl rfl (by kernel_rfl) (by decide) (fun K hK => ?_)
            refine goes_ Try.func25 (by kernel_rfl) rfl #[.slice A0 b.length c0, .int .i64 12] (by rfl) rfl rfl (by (try simp only [List.map_toArray, List.map_cons, List.map_nil]); first | done | rfl) ?_
            with_reducible refine (shardlogref01_At.calls A0 c0 b 12 n3 _ (Kd.C_below HC4.out HB6.out) hc4 K3.out).mono ?_
            rintro e w9 ⟨rfl, hdr⟩
            refine ⟨_, rfl, ?_⟩
            have hb9 := hdr.below
            have ms := Aside0.mk (show (fun w' => w'.cell? ⟨g5, 0, none⟩ = some (.string s0) ∧ w'.cell? ⟨g5, 1, none⟩ = some (.string s1) ∧ w'.cell? ⟨g5, 2, none⟩ = some (.string s2) ∧ w'.cell? ⟨g5, 3, none⟩ = some (.string s3) ∧ w'.cell? ⟨g5, 4, none⟩ = some (.string s4)) w9 from by obtain ⟨y0, y1, y2, y3, y4⟩ := HS.out; exact ⟨(hb9.cell (World.block_lt_of_cell? _ _ y0)).trans y0, (hb9.cell (World.block_lt_of_cell? _ _ y1)).trans y1, (hb9.cell (World.block_lt_of_cell? _ _ y2)).trans y2, (hb9.cell (World.block_lt_of_cell? _ _ y3)).trans y3, (hb9.cell (World.block_lt_of_cell? _ _ y4)).trans y4⟩); have mb := Aside0.mk (below_step HB6.out hb9); clear HS HB6; have HS := ms; have HB6 := mb; clear ms mb
            have m1 := Aside0.mk (blk_below B11.out hb9); clear B11; have B11 := m1; clear m1
            clear hb9 hdr
            refine hK.out _ _ HS.out (fun hHeld => ?_)
            clear hK K
            refine norm_ (a' := ?_) ?_ ?_
            rotate_left
            · show Act.put _ (some 47) _ = _
              simp only [Act.put, List.setIfInBounds_toArray, List.set_cons_zero, List.set_cons_succ, i64_w, i32_w]
              rfl
            refine pure_ (i := 25) (N := some 65) (v := .agg #[.int .i64 n0, .int .i64 n1, .int .i64 n2, .string s0, .string s1, .string s2, .int .i64 n3, .string s3, .string s4, .bool (n4 == 1)]) (a' := ?qa4) #[true, true, true, true, true, true, true, true, true, true, true, true, true, true, true, true, true, true, true, true, true, true, true, true, true, true, true, false] rfl rfl (by kernel_rfl) (fun _ _ _ h => h) (Or.inl ⟨by rfl, ?qy4⟩) ?qb4 ?qh4
            case qy4 =>
              intro w'
              go_simp
            case qb4 =>
              simp only [Act.put, List.setIfInBounds_toArray, List.set_cons_zero, List.set_cons_succ, i64_w, i32_w]
              rfl
            refine last_ (i := 27) (N := none) #[true, true, true, true, true, true, true, true, true, true, true, true, true, true, true, true, true, true, true, true, true, true, true, true, true, true, true, true] rfl rfl (by kernel_rfl) (by decide) (fun K hK => ?_)
            rw [if_pos (by rfl)]
            refine wp_store_row 23 _ _ rfl g11 #[.int .i64 n0, .int .i64 n1, .int .i64 n2, .string s0, .string s1, .string s2, .int .i64 n3, .string s3, .string s4, .bool (n4 == 1)] rfl rfl 23 _ B11.out (by kernel_rfl) rfl (by kernel_rfl) ?_
            have hq := Aside0.mk (setRow_heap _ g11 _ #[.int .i64 n0, .int .i64 n1, .int .i64 n2, .string s0, .string s1, .string s2, .int .i64 n3, .string s3, .string s4, .bool (n4 == 1)] _ _ B11.out)
            have hbq := Aside0.mk (below_setRow HB6.out G11.out #[.int .i64 n0, .int .i64 n1, .int .i64 n2, .string s0, .string s1, .string s2, .int .i64 n3, .string s3, .string s4, .bool (n4 == 1)])
            refine hK.out _ _ ?_
            clear hK K
            refine done_ (by kernel_rfl) ?_
            try go_wp2
            go_meet
            case rel => exact ⟨g11, rfl, hq, hbq, G11⟩
        ·
          refine box_step (by rfl) (N := 11) rfl (cs := #[.int .i64 0, .int .i64 0, .int .i64 0, .string ⟨#[]⟩, .string ⟨#[]⟩, .string ⟨#[]⟩, .int .i64 0, .string ⟨#[]⟩, .string ⟨#[]⟩, .bool false]) (t := 23) ?hr0 ?_
          · (first | (go_simp; done) | (go_simp; rfl))
          intro g11 hg w9 hbox hb9
          have G11 := Aside0.mk (show w4.heap.size ≤ g11 from by rw [hg]; exact HB6.out.size)
          have ms := Aside0.mk (show (fun w' => w'.cell? ⟨g5, 0, none⟩ = some (.string s0) ∧ w'.cell? ⟨g5, 1, none⟩ = some (.string s1) ∧ w'.cell? ⟨g5, 2, none⟩ = some (.string s2) ∧ w'.cell? ⟨g5, 3, none⟩ = some (.string s3) ∧ w'.cell? ⟨g5, 4, none⟩ = some (.string s4)) w9 from by obtain ⟨y0, y1, y2, y3, y4⟩ := HS.out; exact ⟨(hb9.cell (World.block_lt_of_cell? _ _ y0)).trans y0, (hb9.cell (World.block_lt_of_cell? _ _ y1)).trans y1, (hb9.cell (World.block_lt_of_cell? _ _ y2)).trans y2, (hb9.cell (World.block_lt_of_cell? _ _ y3)).trans y3, (hb9.cell (World.block_lt_of_cell? _ _ y4)).trans y4⟩); have mb := Aside0.mk (below_step HB6.out hb9); clear HS HB6; have HS := ms; have HB6 := mb; clear ms mb
          have B11 := Aside0.mk hbox
          clear hb9 hbox hg
          refine hK.out _ _ HS.out (fun hHeld => ?_)
          clear hK K
          refine norm_ (a' := ?_) ?_ ?_
          rotate_left
          · show Act.put _ (some 11) _ = _
            simp only [Act.put, List.setIfInBounds_toArray, List.set_cons_zero, List.set_cons_succ, i64_w, i32_w]
            rfl
          refine one_ (i := 1) (N := some 41) #[true, true, true, false, true, false, true, false, true, true, true, true, true, true, true, true, true, true, true, true, true, true, true, true, true, false, true, false] rfl rfl (by kernel_rfl) (by decide) (fun K hK => ?_)
          refine goes_ Try.func25 (by kernel_rfl) rfl #[.slice A0 b.length c0, .int .i64 0] (by rfl) rfl rfl (by (try simp only [List.map_toArray, List.map_cons, List.map_nil]); first | done | rfl) ?_
          with_reducible refine (shardlogref01_At.calls A0 c0 b 0 n0 _ (Kd.C_below HC4.out HB6.out) hc4 K0.out).mono ?_
          rintro e w9 ⟨rfl, hdr⟩
          refine ⟨_, rfl, ?_⟩
          have hb9 := hdr.below
          have ms := Aside0.mk (show (fun w' => w'.cell? ⟨g5, 0, none⟩ = some (.string s0) ∧ w'.cell? ⟨g5, 1, none⟩ = some (.string s1) ∧ w'.cell? ⟨g5, 2, none⟩ = some (.string s2) ∧ w'.cell? ⟨g5, 3, none⟩ = some (.string s3) ∧ w'.cell? ⟨g5, 4, none⟩ = some (.string s4)) w9 from by obtain ⟨y0, y1, y2, y3, y4⟩ := HS.out; exact ⟨(hb9.cell (World.block_lt_of_cell? _ _ y0)).trans y0, (hb9.cell (World.block_lt_of_cell? _ _ y1)).trans y1, (hb9.cell (World.block_lt_of_cell? _ _ y2)).trans y2, (hb9.cell (World.block_lt_of_cell? _ _ y3)).trans y3, (hb9.cell (World.block_lt_of_cell? _ _ y4)).trans y4⟩); have mb := Aside0.mk (below_step HB6.out hb9); clear HS HB6; have HS := ms; have HB6 := mb; clear ms mb
          have m1 := Aside0.mk (blk_below B11.out hb9); clear B11; have B11 := m1; clear m1
          clear hb9 hdr
          refine hK.out _ _ HS.out (fun hHeld => ?_)
          clear hK K
          refine norm_ (a' := ?_) ?_ ?_
          rotate_left
          · show Act.put _ (some 41) _ = _
            simp only [Act.put, List.setIfInBounds_toArray, List.set_cons_zero, List.set_cons_succ, i64_w, i32_w]
            rfl
          refine one_ (i := 3) (N := some 43) #[true, true, true, true, true, false, true, false, true, true, true, true, true, true, true, true, true, true, true, true, true, true, true, true, true, false, true, false] rfl rfl (by kernel_rfl) (by decide) (fun K hK => ?_)
          refine goes_ Try.func25 (by kernel_rfl) rfl #[.slice A0 b.length c0, .int .i64 4] (by rfl) rfl rfl (by (try simp only [List.map_toArray, List.map_cons, List.map_nil]); first | done | rfl) ?_
          with_reducible refine (shardlogref01_At.calls A0 c0 b 4 n1 _ (Kd.C_below HC4.out HB6.out) hc4 K1.out).mono ?_
          rintro e w9 ⟨rfl, hdr⟩
          refine ⟨_, rfl, ?_⟩
          have hb9 := hdr.below
          have ms := Aside0.mk (show (fun w' => w'.cell? ⟨g5, 0, none⟩ = some (.string s0) ∧ w'.cell? ⟨g5, 1, none⟩ = some (.string s1) ∧ w'.cell? ⟨g5, 2, none⟩ = some (.string s2) ∧ w'.cell? ⟨g5, 3, none⟩ = some (.string s3) ∧ w'.cell? ⟨g5, 4, none⟩ = some (.string s4)) w9 from by obtain ⟨y0, y1, y2, y3, y4⟩ := HS.out; exact ⟨(hb9.cell (World.block_lt_of_cell? _ _ y0)).trans y0, (hb9.cell (World.block_lt_of_cell? _ _ y1)).trans y1, (hb9.cell (World.block_lt_of_cell? _ _ y2)).trans y2, (hb9.cell (World.block_lt_of_cell? _ _ y3)).trans y3, (hb9.cell (World.block_lt_of_cell? _ _ y4)).trans y4⟩); have mb := Aside0.mk (below_step HB6.out hb9); clear HS HB6; have HS := ms; have HB6 := mb; clear ms mb
          have m1 := Aside0.mk (blk_below B11.out hb9); clear B11; have B11 := m1; clear m1
          clear hb9 hdr
          refine hK.out _ _ HS.out (fun hHeld => ?_)
          clear hK K
          refine norm_ (a' := ?_) ?_ ?_
          rotate_left
          · show Act.put _ (some 43) _ = _
            simp only [Act.put, List.setIfInBounds_toArray, List.set_cons_zero, List.set_cons_succ, i64_w, i32_w]
            rfl
          refine one_ (i := 5) (N := some 45) #[true, true, true, true, true, true, true, false, true, true, true, true, true, true, true, true, true, true, true, true, true, true, true, true, true, false, true, false] rfl rfl (by kernel_rfl) (by decide) (fun K hK => ?_)
          refine goes_ Try.func25 (by kernel_rfl) rfl #[.slice A0 b.length c0, .int .i64 8] (by rfl) rfl rfl (by (try simp only [List.map_toArray, List.map_cons, List.map_nil]); first | done | rfl) ?_
          with_reducible refine (shardlogref01_At.calls A0 c0 b 8 n2 _ (Kd.C_below HC4.out HB6.out) hc4 K2.out).mono ?_
          rintro e w9 ⟨rfl, hdr⟩
          refine ⟨_, rfl, ?_⟩
          have hb9 := hdr.below
          have ms := Aside0.mk (show (fun w' => w'.cell? ⟨g5, 0, none⟩ = some (.string s0) ∧ w'.cell? ⟨g5, 1, none⟩ = some (.string s1) ∧ w'.cell? ⟨g5, 2, none⟩ = some (.string s2) ∧ w'.cell? ⟨g5, 3, none⟩ = some (.string s3) ∧ w'.cell? ⟨g5, 4, none⟩ = some (.string s4)) w9 from by obtain ⟨y0, y1, y2, y3, y4⟩ := HS.out; exact ⟨(hb9.cell (World.block_lt_of_cell? _ _ y0)).trans y0, (hb9.cell (World.block_lt_of_cell? _ _ y1)).trans y1, (hb9.cell (World.block_lt_of_cell? _ _ y2)).trans y2, (hb9.cell (World.block_lt_of_cell? _ _ y3)).trans y3, (hb9.cell (World.block_lt_of_cell? _ _ y4)).trans y4⟩); have mb := Aside0.mk (below_step HB6.out hb9); clear HS HB6; have HS := ms; have HB6 := mb; clear ms mb
          have m1 := Aside0.mk (blk_below B11.out hb9); clear B11; have B11 := m1; clear m1
          clear hb9 hdr
          refine hK.out _ _ HS.out (fun hHeld => ?_)
          clear hK K
          refine norm_ (a' := ?_) ?_ ?_
          rotate_left
          · show Act.put _ (some 45) _ = _
            simp only [Act.put, List.setIfInBounds_toArray, List.set_cons_zero, List.set_cons_succ, i64_w, i32_w]
            rfl
          refine one_ (i := 7) (N := some 47) #[true, true, true, true, true, true, true, true, true, true, true, true, true, true, true, true, true, true, true, true, true, true, true, true, true, false, true, false] rfl rfl (by kernel_rfl) (by decide) (fun K hK => ?_)
          refine goes_ Try.func25 (by kernel_rfl) rfl #[.slice A0 b.length c0, .int .i64 12] (by rfl) rfl rfl (by (try simp only [List.map_toArray, List.map_cons, List.map_nil]); first | done | rfl) ?_
          with_reducible refine (shardlogref01_At.calls A0 c0 b 12 n3 _ (Kd.C_below HC4.out HB6.out) hc4 K3.out).mono ?_
          rintro e w9 ⟨rfl, hdr⟩
          refine ⟨_, rfl, ?_⟩
          have hb9 := hdr.below
          have ms := Aside0.mk (show (fun w' => w'.cell? ⟨g5, 0, none⟩ = some (.string s0) ∧ w'.cell? ⟨g5, 1, none⟩ = some (.string s1) ∧ w'.cell? ⟨g5, 2, none⟩ = some (.string s2) ∧ w'.cell? ⟨g5, 3, none⟩ = some (.string s3) ∧ w'.cell? ⟨g5, 4, none⟩ = some (.string s4)) w9 from by obtain ⟨y0, y1, y2, y3, y4⟩ := HS.out; exact ⟨(hb9.cell (World.block_lt_of_cell? _ _ y0)).trans y0, (hb9.cell (World.block_lt_of_cell? _ _ y1)).trans y1, (hb9.cell (World.block_lt_of_cell? _ _ y2)).trans y2, (hb9.cell (World.block_lt_of_cell? _ _ y3)).trans y3, (hb9.cell (World.block_lt_of_cell? _ _ y4)).trans y4⟩); have mb := Aside0.mk (below_step HB6.out hb9); clear HS HB6; have HS := ms; have HB6 := mb; clear ms mb
          have m1 := Aside0.mk (blk_below B11.out hb9); clear B11; have B11 := m1; clear m1
          clear hb9 hdr
          refine hK.out _ _ HS.out (fun hHeld => ?_)
          clear hK K
          refine norm_ (a' := ?_) ?_ ?_
          rotate_left
          · show Act.put _ (some 47) _ = _
            simp only [Act.put, List.setIfInBounds_toArray, List.set_cons_zero, List.set_cons_succ, i64_w, i32_w]
            rfl
          refine pure_ (i := 25) (N := some 65) (v := .agg #[.int .i64 n0, .int .i64 n1, .int .i64 n2, .string s0, .string s1, .string s2, .int .i64 n3, .string s3, .string s4, .bool (n4 == 1)]) (a' := ?qa5) #[true, true, true, true, true, true, true, true, true, true, true, true, true, true, true, true, true, true, true, true, true, true, true, true, true, true, true, false] rfl rfl (by kernel_rfl) (fun _ _ _ h => h) (Or.inl ⟨by rfl, ?qy5⟩) ?qb5 ?qh5
          case qy5 =>
            intro w'
            go_simp
          case qb5 =>
            simp only [Act.put, List.setIfInBounds_toArray, List.set_cons_zero, List.set_cons_succ, i64_w, i32_w]
            rfl
          refine last_ (i := 27) (N := none) #[true, true, true, true, true, true, true, true, true, true, true, true, true, true, true, true, true, true, true, true, true, true, true, true, true, true, true, true] rfl rfl (by kernel_rfl) (by decide) (fun K hK => ?_)
          rw [if_pos (by rfl)]
          refine wp_store_row 23 _ _ rfl g11 #[.int .i64 n0, .int .i64 n1, .int .i64 n2, .string s0, .string s1, .string s2, .int .i64 n3, .string s3, .string s4, .bool (n4 == 1)] rfl rfl 23 _ B11.out (by kernel_rfl) rfl (by kernel_rfl) ?_
          have hq := Aside0.mk (setRow_heap _ g11 _ #[.int .i64 n0, .int .i64 n1, .int .i64 n2, .string s0, .string s1, .string s2, .int .i64 n3, .string s3, .string s4, .bool (n4 == 1)] _ _ B11.out)
          have hbq := Aside0.mk (below_setRow HB6.out G11.out #[.int .i64 n0, .int .i64 n1, .int .i64 n2, .string s0, .string s1, .string s2, .int .i64 n3, .string s3, .string s4, .bool (n4 == 1)])
          refine hK.out _ _ ?_
          clear hK K
          refine done_ (by kernel_rfl) ?_
          try go_wp2
          go_meet
          case rel => exact ⟨g11, rfl, hq, hbq, G11⟩
      case rest =>
        obtain ⟨q, rfl, HQ, HB7, HGQ⟩ := hcut
        clear HR6 HB6
        have hg2q : g2 ≠ q := by have := blk_lt HV4.out; have := HGQ.out; omega
        have HV7 := Aside0.mk (blk_below HV4.out HB7.out)
        have HB8 := Aside0.mk (below_step HB0.out HB7.out)
        have hf := HF.out
        unfold shardlogref15_Get.fin at hf
        clear K0 K1 K2 K3 K4 HF HB7
        by_cases hp : p = (b.length : Int)
        · rw [if_pos hp] at hf
          have hp2 : (p == (b.length : Int)) = true := beq_iff_eq.mpr hp
          by_cases hn4 : n4 ≤ 1
          · rw [if_pos hn4] at hf
            obtain ⟨rr, hrr, hf⟩ := Option.bind_eq_some_iff.1 hf
            have HRR := Aside0.mk hrr
            clear hrr
            simp only [Option.some.injEq, Prod.mk.injEq] at hf
            obtain ⟨rfl, rfl, rfl, rfl, rfl, rfl, rfl, rfl, rfl, rfl, rfl⟩ := hf
            go_upto_region 16 with (fail)
            have b6 : wc.drew.heap[q]? = some (.cells #[.int .i64 n0, .int .i64 n1, .int .i64 n2, .string s0, .string s1, .string s2, .int .i64 n3, .string s3, .string s4, .bool (n4 == 1)] 23 (0, 0)) := HQ.out
            have r6 : wc.drew.rangeAt q 0 [.int .i64 n0, .int .i64 n1, .int .i64 n2, .string s0, .string s1, .string s2, .int .i64 n3, .string s3, .string s4, .bool (n4 == 1)] := fun j u hu => (blk_cell b6 (0 + j)).trans (by rw [Nat.zero_add, List.getElem?_toArray]; exact hu)
            have B6 := Aside0.mk b6
            have HV9 := Aside0.mk (blk_drew HV7.out)
            have HB9 := Aside0.mk (below_step HB8.out (below_drew (Below.refl _ _)))
            refine start_ (n := 15) (ds := [13]) (S := fun w' => w'.rangeAt q 0 [.int .i64 n0, .int .i64 n1, .int .i64 n2, .string s0, .string s1, .string s2, .int .i64 n3, .string s3, .string s4, .bool (n4 == 1)]) #[false, false, false, false, false, false, false, false, false, false, false, false, false, false, false] rfl rfl rfl r6 (fun hHeld => ?_)
            generalize wc.drew = w10 at B6 HV9 HB9 hHeld ⊢
            refine take_ (i := 0) (N := (some 66)) (v := .agg #[.int .i64 n0, .int .i64 n1, .int .i64 n2, .string s0, .string s1, .string s2, .int .i64 n3, .string s3, .string s4, .bool (n4 == 1)]) (a' := ?a0C) #[true, false, false, false, false, false, false, false, false, false, false, false, false, false, false] rfl rfl (by kernel_rfl) (fun _ _ _ h => h) ?hy0C hHeld ?ha0C ?hh0C
            case hy0C => exact yieldsIf_load_mid (by rfl) 23 _ rfl q 0 (by go_simp) _ _ (fun w' hw' => hw') hu1 rfl rfl
            case ha0C =>
              simp only [Act.put, List.setIfInBounds_toArray, List.set_cons_zero, List.set_cons_succ, i64_w, i32_w]
              rfl
            refine pure_ (i := 1) (N := (some 67)) (v := ?_) (a' := ?_) #[true, true, false, false, false, false, false, false, false, false, false, false, false, false, false] rfl rfl (by kernel_rfl) (fun _ _ _ h => h) (Or.inl ⟨by rfl, ?_⟩) ?_ ?_
            rotate_left
            · intro w'
              go_simp
              with_reducible rfl
            rotate_left
            · simp only [Act.put, List.setIfInBounds_toArray, List.set_cons_zero, List.set_cons_succ, i64_w, i32_w]
              rfl
            refine pure_ (i := 2) (N := (some 68)) (v := ?_) (a' := ?_) #[true, true, true, false, false, false, false, false, false, false, false, false, false, false, false] rfl rfl (by kernel_rfl) (fun _ _ _ h => h) (Or.inl ⟨by rfl, ?_⟩) ?_ ?_
            rotate_left
            · intro w'
              go_simp
              with_reducible rfl
            rotate_left
            · simp only [Act.put, List.setIfInBounds_toArray, List.set_cons_zero, List.set_cons_succ, i64_w, i32_w]
              rfl
            refine pure_ (i := 3) (N := (some 69)) (v := ?_) (a' := ?_) #[true, true, true, true, false, false, false, false, false, false, false, false, false, false, false] rfl rfl (by kernel_rfl) (fun _ _ _ h => h) (Or.inl ⟨by rfl, ?_⟩) ?_ ?_
            rotate_left
            · intro w'
              go_simp
              with_reducible rfl
            rotate_left
            · simp only [Act.put, List.setIfInBounds_toArray, List.set_cons_zero, List.set_cons_succ, i64_w, i32_w]
              rfl
            refine pure_ (i := 4) (N := (some 70)) (v := .bool true) (a' := ?pa4C) #[true, true, true, true, true, false, false, false, false, false, false, false, false, false, false] rfl rfl (by kernel_rfl) (fun _ _ _ h => h) (Or.inl ⟨by rfl, ?py4C⟩) ?pb4C ?ph4C
            case py4C =>
              intro w'
              go_simp
            case pb4C =>
              simp only [Act.put, List.setIfInBounds_toArray, List.set_cons_zero, List.set_cons_succ, i64_w, i32_w]
              rfl
            refine pure_ (i := 5) (N := (some 71)) (v := ?_) (a' := ?_) #[true, true, true, true, true, true, false, false, false, false, false, false, false, false, false] rfl rfl (by kernel_rfl) (fun _ _ _ h => h) (Or.inl ⟨by rfl, ?_⟩) ?_ ?_
            rotate_left
            · intro w'
              go_simp
              with_reducible rfl
            rotate_left
            · simp only [Act.put, List.setIfInBounds_toArray, List.set_cons_zero, List.set_cons_succ, i64_w, i32_w]
              rfl
            refine pure_ (i := 6) (N := (some 72)) (v := ?_) (a' := ?_) #[true, true, true, true, true, true, true, false, false, false, false, false, false, false, false] rfl rfl (by kernel_rfl) (fun _ _ _ h => h) (Or.inl ⟨by rfl, ?_⟩) ?_ ?_
            rotate_left
            · intro w'
              go_simp
              with_reducible rfl
            rotate_left
            · simp only [Act.put, List.setIfInBounds_toArray, List.set_cons_zero, List.set_cons_succ, i64_w, i32_w]
              rfl
            refine pure_ (i := 7) (N := (some 73)) (v := .bool true) (a' := ?pa7C) #[true, true, true, true, true, true, true, true, false, false, false, false, false, false, false] rfl rfl (by kernel_rfl) (fun _ _ _ h => h) (Or.inl ⟨by rfl, ?py7C⟩) ?pb7C ?ph7C
            case py7C =>
              intro w'
              go_simp
            case pb7C =>
              simp only [Act.put, List.setIfInBounds_toArray, List.set_cons_zero, List.set_cons_succ, i64_w, i32_w]
              rfl
            refine pure_ (i := 8) (N := (some 74)) (v := .bool true) (a' := ?pa8C) #[true, true, true, true, true, true, true, true, true, false, false, false, false, false, false] rfl rfl (by kernel_rfl) (fun _ _ _ h => h) (Or.inl ⟨by rfl, ?py8C⟩) ?pb8C ?ph8C
            case py8C =>
              intro w'
              go_simp
            case pb8C =>
              simp only [Act.put, List.setIfInBounds_toArray, List.set_cons_zero, List.set_cons_succ, i64_w, i32_w]
              rfl
            refine pure_ (i := 9) (N := (some 75)) (v := ?_) (a' := ?_) #[true, true, true, true, true, true, true, true, true, true, false, false, false, false, false] rfl rfl (by kernel_rfl) (fun _ _ _ h => h) (Or.inl ⟨by rfl, ?_⟩) ?_ ?_
            rotate_left
            · intro w'
              go_simp
              with_reducible rfl
            rotate_left
            · simp only [Act.put, List.setIfInBounds_toArray, List.set_cons_zero, List.set_cons_succ, i64_w, i32_w]
              rfl
            refine take_ (i := 10) (N := (some 76)) (v := .agg #[.int .i64 n0, .int .i64 n1, .int .i64 n2, .string s0, .string s1, .string s2, .int .i64 n3, .string s3, .string s4, .bool (n4 == 1)]) (a' := ?a10C) #[true, true, true, true, true, true, true, true, true, true, true, false, false, false, false] rfl rfl (by kernel_rfl) (fun _ _ _ h => h) ?hy10C hHeld ?ha10C ?hh10C
            case hy10C => exact yieldsIf_load_mid (by rfl) 23 _ rfl q 0 (by go_simp) _ _ (fun w' hw' => hw') hu1 rfl rfl
            case ha10C =>
              simp only [Act.put, List.setIfInBounds_toArray, List.set_cons_zero, List.set_cons_succ, i64_w, i32_w]
              rfl
            refine one_ (i := 11) (N := (some 77)) #[true, true, true, true, true, true, true, true, true, true, true, true, false, false, false] rfl rfl (by kernel_rfl) (by decide) (fun K hK => ?_)
            refine goes_ Try.func11 (by kernel_rfl) rfl #[.agg #[.int .i64 n0, .int .i64 n1, .int .i64 n2, .string s0, .string s1, .string s2, .int .i64 n3, .string s3, .string s4, .bool (n4 == 1)]] (by rfl) rfl rfl (by (try simp only [List.map_toArray, List.map_cons, List.map_nil]); first | done | rfl) ?_
            with_reducible refine (shardlogref15_Right.calls k n0 n1 n2 s0 s1 s2 n3 s3 s4 (n4 == 1) rr _ HRR.out).mono ?_
            rintro e w9 ⟨rfl, hb⟩
            refine ⟨_, rfl, ?_⟩
            have m0 := Aside0.mk (blk_below B6.out hb); have m1 := Aside0.mk (blk_below HV9.out hb); have m2 := Aside0.mk (below_step HB9.out hb)
            clear B6 HV9 HB9 hb
            have B6 := m0; have HV9 := m1; have HB9 := m2
            clear m0 m1 m2
            refine hK.out _ _ (fun j u hu => (blk_cell B6.out (0 + j)).trans (by rw [Nat.zero_add, List.getElem?_toArray]; exact hu)) (fun hHeld => ?_)
            clear hK K
            refine norm_ (a' := ?_) ?_ ?_
            rotate_left
            · show Act.put _ (some 77) _ = _
              simp only [Act.put, List.setIfInBounds_toArray, List.set_cons_zero, List.set_cons_succ, i64_w, i32_w]
              rfl
            refine pure_ (i := 12) (N := (some 78)) (v := .bool rr) (a' := ?pa12C) #[true, true, true, true, true, true, true, true, true, true, true, true, true, false, false] rfl rfl (by kernel_rfl) (fun _ _ _ h => h) (Or.inl ⟨by rfl, ?py12C⟩) ?pb12C ?ph12C
            case py12C =>
              intro w'
              go_simp
            case pb12C =>
              simp only [Act.put, List.setIfInBounds_toArray, List.set_cons_zero, List.set_cons_succ, i64_w, i32_w]
              rfl
            refine last_ (i := 13) (N := none) #[true, true, true, true, true, true, true, true, true, true, true, true, true, true, false] rfl rfl (by kernel_rfl) (by decide) (fun K hK => ?_)
            rw [if_pos (by rfl)]
            refine wp_store_row 23 _ _ rfl g2 #[.int .i64 n0, .int .i64 n1, .int .i64 n2, .string s0, .string s1, .string s2, .int .i64 n3, .string s3, .string s4, .bool (n4 == 1)] rfl rfl 23 _ HV9.out (by kernel_rfl) rfl (by kernel_rfl) ?_
            have HR := Aside0.mk (setRow_heap _ g2 _ #[.int .i64 n0, .int .i64 n1, .int .i64 n2, .string s0, .string s1, .string s2, .int .i64 n3, .string s3, .string s4, .bool (n4 == 1)] _ _ HV9.out)
            have HBR := Aside0.mk (below_setRow HB9.out hge2 #[.int .i64 n0, .int .i64 n1, .int .i64 n2, .string s0, .string s1, .string s2, .int .i64 n3, .string s3, .string s4, .bool (n4 == 1)])
            refine hK.out _ _ ?_
            clear hK K
            refine pure_ (i := 14) (N := (some 3)) (v := ?_) (a' := ?_) #[true, true, true, true, true, true, true, true, true, true, true, true, true, true, true] rfl rfl (by kernel_rfl) (fun _ _ _ h => h) (Or.inl ⟨by rfl, ?_⟩) ?_ ?_
            rotate_left
            · intro w'
              go_simp
              with_reducible rfl
            rotate_left
            · simp only [Act.put, List.setIfInBounds_toArray, List.set_cons_zero, List.set_cons_succ, i64_w, i32_w]
              rfl
            refine done_ (by kernel_rfl) ?_
            try go_wp2
            refine bodyPost_ret (results_ct rfl _ _ g2 23 #[.int .i64 n0, .int .i64 n1, .int .i64 n2, .string s0, .string s1, .string s2, .int .i64 n3, .string s3, .string s4, .bool (n4 == 1)] (0, 0) _ rfl HR.out Try.underlying23 rfl (by kernel_rfl)) rfl ?_
            exact ⟨rfl, HBR.out⟩
          · rw [if_neg hn4] at hf
            simp only [Option.some.injEq, Prod.mk.injEq] at hf
            obtain ⟨rfl, rfl, rfl, rfl, rfl, rfl, rfl, rfl, rfl, rfl, rfl⟩ := hf
            go_upto_region 16 with (fail)
            have b6 : wc.drew.heap[q]? = some (.cells #[.int .i64 n0, .int .i64 n1, .int .i64 n2, .string s0, .string s1, .string s2, .int .i64 n3, .string s3, .string s4, .bool (n4 == 1)] 23 (0, 0)) := HQ.out
            have r6 : wc.drew.rangeAt q 0 [.int .i64 n0, .int .i64 n1, .int .i64 n2, .string s0, .string s1, .string s2, .int .i64 n3, .string s3, .string s4, .bool (n4 == 1)] := fun j u hu => (blk_cell b6 (0 + j)).trans (by rw [Nat.zero_add, List.getElem?_toArray]; exact hu)
            have B6 := Aside0.mk b6
            have HV9 := Aside0.mk (blk_drew HV7.out)
            have HB9 := Aside0.mk (below_step HB8.out (below_drew (Below.refl _ _)))
            refine start_ (n := 15) (ds := [13]) (S := fun w' => w'.rangeAt q 0 [.int .i64 n0, .int .i64 n1, .int .i64 n2, .string s0, .string s1, .string s2, .int .i64 n3, .string s3, .string s4, .bool (n4 == 1)]) #[false, false, false, false, false, false, false, false, false, false, false, false, false, false, false] rfl rfl rfl r6 (fun hHeld => ?_)
            generalize wc.drew = w10 at B6 HV9 HB9 hHeld ⊢
            refine take_ (i := 0) (N := (some 66)) (v := .agg #[.int .i64 n0, .int .i64 n1, .int .i64 n2, .string s0, .string s1, .string s2, .int .i64 n3, .string s3, .string s4, .bool (n4 == 1)]) (a' := ?a0B) #[true, false, false, false, false, false, false, false, false, false, false, false, false, false, false] rfl rfl (by kernel_rfl) (fun _ _ _ h => h) ?hy0B hHeld ?ha0B ?hh0B
            case hy0B => exact yieldsIf_load_mid (by rfl) 23 _ rfl q 0 (by go_simp) _ _ (fun w' hw' => hw') hu1 rfl rfl
            case ha0B =>
              simp only [Act.put, List.setIfInBounds_toArray, List.set_cons_zero, List.set_cons_succ, i64_w, i32_w]
              rfl
            refine pure_ (i := 1) (N := (some 67)) (v := ?_) (a' := ?_) #[true, true, false, false, false, false, false, false, false, false, false, false, false, false, false] rfl rfl (by kernel_rfl) (fun _ _ _ h => h) (Or.inl ⟨by rfl, ?_⟩) ?_ ?_
            rotate_left
            · intro w'
              go_simp
              with_reducible rfl
            rotate_left
            · simp only [Act.put, List.setIfInBounds_toArray, List.set_cons_zero, List.set_cons_succ, i64_w, i32_w]
              rfl
            refine pure_ (i := 2) (N := (some 68)) (v := ?_) (a' := ?_) #[true, true, true, false, false, false, false, false, false, false, false, false, false, false, false] rfl rfl (by kernel_rfl) (fun _ _ _ h => h) (Or.inl ⟨by rfl, ?_⟩) ?_ ?_
            rotate_left
            · intro w'
              go_simp
              with_reducible rfl
            rotate_left
            · simp only [Act.put, List.setIfInBounds_toArray, List.set_cons_zero, List.set_cons_succ, i64_w, i32_w]
              rfl
            refine pure_ (i := 3) (N := (some 69)) (v := ?_) (a' := ?_) #[true, true, true, true, false, false, false, false, false, false, false, false, false, false, false] rfl rfl (by kernel_rfl) (fun _ _ _ h => h) (Or.inl ⟨by rfl, ?_⟩) ?_ ?_
            rotate_left
            · intro w'
              go_simp
              with_reducible rfl
            rotate_left
            · simp only [Act.put, List.setIfInBounds_toArray, List.set_cons_zero, List.set_cons_succ, i64_w, i32_w]
              rfl
            refine pure_ (i := 4) (N := (some 70)) (v := .bool true) (a' := ?pa4B) #[true, true, true, true, true, false, false, false, false, false, false, false, false, false, false] rfl rfl (by kernel_rfl) (fun _ _ _ h => h) (Or.inl ⟨by rfl, ?py4B⟩) ?pb4B ?ph4B
            case py4B =>
              intro w'
              go_simp
            case pb4B =>
              simp only [Act.put, List.setIfInBounds_toArray, List.set_cons_zero, List.set_cons_succ, i64_w, i32_w]
              rfl
            refine pure_ (i := 5) (N := (some 71)) (v := ?_) (a' := ?_) #[true, true, true, true, true, true, false, false, false, false, false, false, false, false, false] rfl rfl (by kernel_rfl) (fun _ _ _ h => h) (Or.inl ⟨by rfl, ?_⟩) ?_ ?_
            rotate_left
            · intro w'
              go_simp
              with_reducible rfl
            rotate_left
            · simp only [Act.put, List.setIfInBounds_toArray, List.set_cons_zero, List.set_cons_succ, i64_w, i32_w]
              rfl
            refine pure_ (i := 6) (N := (some 72)) (v := ?_) (a' := ?_) #[true, true, true, true, true, true, true, false, false, false, false, false, false, false, false] rfl rfl (by kernel_rfl) (fun _ _ _ h => h) (Or.inl ⟨by rfl, ?_⟩) ?_ ?_
            rotate_left
            · intro w'
              go_simp
              with_reducible rfl
            rotate_left
            · simp only [Act.put, List.setIfInBounds_toArray, List.set_cons_zero, List.set_cons_succ, i64_w, i32_w]
              rfl
            refine pure_ (i := 7) (N := (some 73)) (v := .bool false) (a' := ?pa7B) #[true, true, true, true, true, true, true, true, false, false, false, false, false, false, false] rfl rfl (by kernel_rfl) (fun _ _ _ h => h) (Or.inl ⟨by rfl, ?py7B⟩) ?pb7B ?ph7B
            case py7B =>
              intro w'
              go_simp
            case pb7B =>
              simp only [Act.put, List.setIfInBounds_toArray, List.set_cons_zero, List.set_cons_succ, i64_w, i32_w]
              rfl
            refine pure_ (i := 8) (N := (some 74)) (v := .bool false) (a' := ?pa8B) #[true, true, true, true, true, true, true, true, true, false, false, false, false, false, false] rfl rfl (by kernel_rfl) (fun _ _ _ h => h) (Or.inl ⟨by rfl, ?py8B⟩) ?pb8B ?ph8B
            case py8B =>
              intro w'
              go_simp
            case pb8B =>
              simp only [Act.put, List.setIfInBounds_toArray, List.set_cons_zero, List.set_cons_succ, i64_w, i32_w]
              rfl
            refine pure_ (i := 9) (N := (some 75)) (v := ?_) (a' := ?_) #[true, true, true, true, true, true, true, true, true, true, false, false, false, false, false] rfl rfl (by kernel_rfl) (fun _ _ _ h => h) (Or.inl ⟨by rfl, ?_⟩) ?_ ?_
            rotate_left
            · intro w'
              go_simp
              with_reducible rfl
            rotate_left
            · simp only [Act.put, List.setIfInBounds_toArray, List.set_cons_zero, List.set_cons_succ, i64_w, i32_w]
              rfl
            refine pure_ (i := 10) (N := (some 76)) (v := undef) (a' := ?_) #[true, true, true, true, true, true, true, true, true, true, true, false, false, false, false] rfl rfl (by kernel_rfl) (fun _ _ _ h => h) (Or.inr ⟨by rfl, rfl⟩) ?_ ?_
            rotate_left
            · simp only [Act.put, List.setIfInBounds_toArray, List.set_cons_zero, List.set_cons_succ, i64_w, i32_w]
              rfl
            refine pure_ (i := 11) (N := (some 77)) (v := undef) (a' := ?_) #[true, true, true, true, true, true, true, true, true, true, true, true, false, false, false] rfl rfl (by kernel_rfl) (fun _ _ _ h => h) (Or.inr ⟨by rfl, rfl⟩) ?_ ?_
            rotate_left
            · simp only [Act.put, List.setIfInBounds_toArray, List.set_cons_zero, List.set_cons_succ, i64_w, i32_w]
              rfl
            refine pure_ (i := 12) (N := (some 78)) (v := .bool false) (a' := ?pa12B) #[true, true, true, true, true, true, true, true, true, true, true, true, true, false, false] rfl rfl (by kernel_rfl) (fun _ _ _ h => h) (Or.inl ⟨by rfl, ?py12B⟩) ?pb12B ?ph12B
            case py12B =>
              intro w'
              go_simp
            case pb12B =>
              simp only [Act.put, List.setIfInBounds_toArray, List.set_cons_zero, List.set_cons_succ, i64_w, i32_w]
              rfl
            refine last_ (i := 13) (N := none) #[true, true, true, true, true, true, true, true, true, true, true, true, true, true, false] rfl rfl (by kernel_rfl) (by decide) (fun K hK => ?_)
            rw [if_pos (by rfl)]
            refine wp_store_row 23 _ _ rfl g2 #[.int .i64 n0, .int .i64 n1, .int .i64 n2, .string s0, .string s1, .string s2, .int .i64 n3, .string s3, .string s4, .bool (n4 == 1)] rfl rfl 23 _ HV9.out (by kernel_rfl) rfl (by kernel_rfl) ?_
            have HR := Aside0.mk (setRow_heap _ g2 _ #[.int .i64 n0, .int .i64 n1, .int .i64 n2, .string s0, .string s1, .string s2, .int .i64 n3, .string s3, .string s4, .bool (n4 == 1)] _ _ HV9.out)
            have HBR := Aside0.mk (below_setRow HB9.out hge2 #[.int .i64 n0, .int .i64 n1, .int .i64 n2, .string s0, .string s1, .string s2, .int .i64 n3, .string s3, .string s4, .bool (n4 == 1)])
            refine hK.out _ _ ?_
            clear hK K
            refine pure_ (i := 14) (N := (some 3)) (v := ?_) (a' := ?_) #[true, true, true, true, true, true, true, true, true, true, true, true, true, true, true] rfl rfl (by kernel_rfl) (fun _ _ _ h => h) (Or.inl ⟨by rfl, ?_⟩) ?_ ?_
            rotate_left
            · intro w'
              go_simp
              with_reducible rfl
            rotate_left
            · simp only [Act.put, List.setIfInBounds_toArray, List.set_cons_zero, List.set_cons_succ, i64_w, i32_w]
              rfl
            refine done_ (by kernel_rfl) ?_
            try go_wp2
            refine bodyPost_ret (results_ct rfl _ _ g2 23 #[.int .i64 n0, .int .i64 n1, .int .i64 n2, .string s0, .string s1, .string s2, .int .i64 n3, .string s3, .string s4, .bool (n4 == 1)] (0, 0) _ rfl HR.out Try.underlying23 rfl (by kernel_rfl)) rfl ?_
            exact ⟨rfl, HBR.out⟩
        · rw [if_neg hp] at hf
          have hp2 : (p == (b.length : Int)) = false := beq_eq_false_iff_ne.mpr hp
          simp only [Option.some.injEq, Prod.mk.injEq] at hf
          obtain ⟨rfl, rfl, rfl, rfl, rfl, rfl, rfl, rfl, rfl, rfl, rfl⟩ := hf
          go_upto_region 16 with (fail)
          have b6 : wc.drew.heap[q]? = some (.cells #[.int .i64 n0, .int .i64 n1, .int .i64 n2, .string s0, .string s1, .string s2, .int .i64 n3, .string s3, .string s4, .bool (n4 == 1)] 23 (0, 0)) := HQ.out
          have r6 : wc.drew.rangeAt q 0 [.int .i64 n0, .int .i64 n1, .int .i64 n2, .string s0, .string s1, .string s2, .int .i64 n3, .string s3, .string s4, .bool (n4 == 1)] := fun j u hu => (blk_cell b6 (0 + j)).trans (by rw [Nat.zero_add, List.getElem?_toArray]; exact hu)
          have B6 := Aside0.mk b6
          have HV9 := Aside0.mk (blk_drew HV7.out)
          have HB9 := Aside0.mk (below_step HB8.out (below_drew (Below.refl _ _)))
          refine start_ (n := 15) (ds := [13]) (S := fun w' => w'.rangeAt q 0 [.int .i64 n0, .int .i64 n1, .int .i64 n2, .string s0, .string s1, .string s2, .int .i64 n3, .string s3, .string s4, .bool (n4 == 1)]) #[false, false, false, false, false, false, false, false, false, false, false, false, false, false, false] rfl rfl rfl r6 (fun hHeld => ?_)
          generalize wc.drew = w10 at B6 HV9 HB9 hHeld ⊢
          refine take_ (i := 0) (N := (some 66)) (v := .agg #[.int .i64 n0, .int .i64 n1, .int .i64 n2, .string s0, .string s1, .string s2, .int .i64 n3, .string s3, .string s4, .bool (n4 == 1)]) (a' := ?a0A) #[true, false, false, false, false, false, false, false, false, false, false, false, false, false, false] rfl rfl (by kernel_rfl) (fun _ _ _ h => h) ?hy0A hHeld ?ha0A ?hh0A
          case hy0A => exact yieldsIf_load_mid (by rfl) 23 _ rfl q 0 (by go_simp) _ _ (fun w' hw' => hw') hu1 rfl rfl
          case ha0A =>
            simp only [Act.put, List.setIfInBounds_toArray, List.set_cons_zero, List.set_cons_succ, i64_w, i32_w]
            rfl
          refine pure_ (i := 1) (N := (some 67)) (v := ?_) (a' := ?_) #[true, true, false, false, false, false, false, false, false, false, false, false, false, false, false] rfl rfl (by kernel_rfl) (fun _ _ _ h => h) (Or.inl ⟨by rfl, ?_⟩) ?_ ?_
          rotate_left
          · intro w'
            go_simp
            with_reducible rfl
          rotate_left
          · simp only [Act.put, List.setIfInBounds_toArray, List.set_cons_zero, List.set_cons_succ, i64_w, i32_w]
            rfl
          refine pure_ (i := 2) (N := (some 68)) (v := ?_) (a' := ?_) #[true, true, true, false, false, false, false, false, false, false, false, false, false, false, false] rfl rfl (by kernel_rfl) (fun _ _ _ h => h) (Or.inl ⟨by rfl, ?_⟩) ?_ ?_
          rotate_left
          · intro w'
            go_simp
            with_reducible rfl
          rotate_left
          · simp only [Act.put, List.setIfInBounds_toArray, List.set_cons_zero, List.set_cons_succ, i64_w, i32_w]
            rfl
          refine pure_ (i := 3) (N := (some 69)) (v := ?_) (a' := ?_) #[true, true, true, true, false, false, false, false, false, false, false, false, false, false, false] rfl rfl (by kernel_rfl) (fun _ _ _ h => h) (Or.inl ⟨by rfl, ?_⟩) ?_ ?_
          rotate_left
          · intro w'
            go_simp
            with_reducible rfl
          rotate_left
          · simp only [Act.put, List.setIfInBounds_toArray, List.set_cons_zero, List.set_cons_succ, i64_w, i32_w]
            rfl
          refine pure_ (i := 4) (N := (some 70)) (v := .bool false) (a' := ?pa4A) #[true, true, true, true, true, false, false, false, false, false, false, false, false, false, false] rfl rfl (by kernel_rfl) (fun _ _ _ h => h) (Or.inl ⟨by rfl, ?py4A⟩) ?pb4A ?ph4A
          case py4A =>
            intro w'
            go_simp
          case pb4A =>
            simp only [Act.put, List.setIfInBounds_toArray, List.set_cons_zero, List.set_cons_succ, i64_w, i32_w]
            rfl
          refine pure_ (i := 5) (N := (some 71)) (v := ?_) (a' := ?_) #[true, true, true, true, true, true, false, false, false, false, false, false, false, false, false] rfl rfl (by kernel_rfl) (fun _ _ _ h => h) (Or.inl ⟨by rfl, ?_⟩) ?_ ?_
          rotate_left
          · intro w'
            go_simp
            with_reducible rfl
          rotate_left
          · simp only [Act.put, List.setIfInBounds_toArray, List.set_cons_zero, List.set_cons_succ, i64_w, i32_w]
            rfl
          refine pure_ (i := 6) (N := (some 72)) (v := undef) (a' := ?_) #[true, true, true, true, true, true, true, false, false, false, false, false, false, false, false] rfl rfl (by kernel_rfl) (fun _ _ _ h => h) (Or.inr ⟨by rfl, rfl⟩) ?_ ?_
          rotate_left
          · simp only [Act.put, List.setIfInBounds_toArray, List.set_cons_zero, List.set_cons_succ, i64_w, i32_w]
            rfl
          refine pure_ (i := 7) (N := (some 73)) (v := undef) (a' := ?_) #[true, true, true, true, true, true, true, true, false, false, false, false, false, false, false] rfl rfl (by kernel_rfl) (fun _ _ _ h => h) (Or.inr ⟨by rfl, rfl⟩) ?_ ?_
          rotate_left
          · simp only [Act.put, List.setIfInBounds_toArray, List.set_cons_zero, List.set_cons_succ, i64_w, i32_w]
            rfl
          refine pure_ (i := 8) (N := (some 74)) (v := .bool false) (a' := ?pa8A) #[true, true, true, true, true, true, true, true, true, false, false, false, false, false, false] rfl rfl (by kernel_rfl) (fun _ _ _ h => h) (Or.inl ⟨by rfl, ?py8A⟩) ?pb8A ?ph8A
          case py8A =>
            intro w'
            go_simp
          case pb8A =>
            simp only [Act.put, List.setIfInBounds_toArray, List.set_cons_zero, List.set_cons_succ, i64_w, i32_w]
            rfl
          refine pure_ (i := 9) (N := (some 75)) (v := ?_) (a' := ?_) #[true, true, true, true, true, true, true, true, true, true, false, false, false, false, false] rfl rfl (by kernel_rfl) (fun _ _ _ h => h) (Or.inl ⟨by rfl, ?_⟩) ?_ ?_
          rotate_left
          · intro w'
            go_simp
            with_reducible rfl
          rotate_left
          · simp only [Act.put, List.setIfInBounds_toArray, List.set_cons_zero, List.set_cons_succ, i64_w, i32_w]
            rfl
          refine pure_ (i := 10) (N := (some 76)) (v := undef) (a' := ?_) #[true, true, true, true, true, true, true, true, true, true, true, false, false, false, false] rfl rfl (by kernel_rfl) (fun _ _ _ h => h) (Or.inr ⟨by rfl, rfl⟩) ?_ ?_
          rotate_left
          · simp only [Act.put, List.setIfInBounds_toArray, List.set_cons_zero, List.set_cons_succ, i64_w, i32_w]
            rfl
          refine pure_ (i := 11) (N := (some 77)) (v := undef) (a' := ?_) #[true, true, true, true, true, true, true, true, true, true, true, true, false, false, false] rfl rfl (by kernel_rfl) (fun _ _ _ h => h) (Or.inr ⟨by rfl, rfl⟩) ?_ ?_
          rotate_left
          · simp only [Act.put, List.setIfInBounds_toArray, List.set_cons_zero, List.set_cons_succ, i64_w, i32_w]
            rfl
          refine pure_ (i := 12) (N := (some 78)) (v := .bool false) (a' := ?pa12A) #[true, true, true, true, true, true, true, true, true, true, true, true, true, false, false] rfl rfl (by kernel_rfl) (fun _ _ _ h => h) (Or.inl ⟨by rfl, ?py12A⟩) ?pb12A ?ph12A
          case py12A =>
            intro w'
            go_simp
          case pb12A =>
            simp only [Act.put, List.setIfInBounds_toArray, List.set_cons_zero, List.set_cons_succ, i64_w, i32_w]
            rfl
          refine last_ (i := 13) (N := none) #[true, true, true, true, true, true, true, true, true, true, true, true, true, true, false] rfl rfl (by kernel_rfl) (by decide) (fun K hK => ?_)
          rw [if_pos (by rfl)]
          refine wp_store_row 23 _ _ rfl g2 #[.int .i64 n0, .int .i64 n1, .int .i64 n2, .string s0, .string s1, .string s2, .int .i64 n3, .string s3, .string s4, .bool (n4 == 1)] rfl rfl 23 _ HV9.out (by kernel_rfl) rfl (by kernel_rfl) ?_
          have HR := Aside0.mk (setRow_heap _ g2 _ #[.int .i64 n0, .int .i64 n1, .int .i64 n2, .string s0, .string s1, .string s2, .int .i64 n3, .string s3, .string s4, .bool (n4 == 1)] _ _ HV9.out)
          have HBR := Aside0.mk (below_setRow HB9.out hge2 #[.int .i64 n0, .int .i64 n1, .int .i64 n2, .string s0, .string s1, .string s2, .int .i64 n3, .string s3, .string s4, .bool (n4 == 1)])
          refine hK.out _ _ ?_
          clear hK K
          refine pure_ (i := 14) (N := (some 3)) (v := ?_) (a' := ?_) #[true, true, true, true, true, true, true, true, true, true, true, true, true, true, true] rfl rfl (by kernel_rfl) (fun _ _ _ h => h) (Or.inl ⟨by rfl, ?_⟩) ?_ ?_
          rotate_left
          · intro w'
            go_simp
            with_reducible rfl
          rotate_left
          · simp only [Act.put, List.setIfInBounds_toArray, List.set_cons_zero, List.set_cons_succ, i64_w, i32_w]
            rfl
          refine done_ (by kernel_rfl) ?_
          try go_wp2
          refine bodyPost_ret (results_ct rfl _ _ g2 23 #[.int .i64 n0, .int .i64 n1, .int .i64 n2, .string s0, .string s1, .string s2, .int .i64 n3, .string s3, .string s4, .bool (n4 == 1)] (0, 0) _ rfl HR.out Try.underlying23 rfl (by kernel_rfl)) rfl ?_
          exact ⟨rfl, HBR.out⟩

end Go.Proofs.Ytpneppnnhiijnaa.X

-- written by a program of this session's, over the kit's print
import Derived.Test.YtpjnaihpkmacjaaXx0
import Derived.Test.YtpjnaihpkmacjaaXx6
namespace Go.Proofs.Ytpjnaihpkmacjaa.X
open Go.RowKit Go.Proofs.YtpjnaihpkmacjaaW.PrintWords Go.Proofs.YtpjnaihpkmacjaaW.PrintLast Go.Proofs.YtpjnaihpkmacjaaW.PrintMore
attribute [local go_sem] max2_int min2_int max_two min_two max_three min_three max_four min_four   -- for this text's walks alone
set_option linter.unusedVariables false
set_option linter.unusedSimpArgs false

/-! ### wire_CutText: function 33 -/
def wire_CutText.f (k : Nat) (l0 : List Int) : Option (ByteArray × List Int × Bool) := (wire_CutNum.f k l0).bind fun bt167 => (if bt167.2.2 = true then (if bt167.1 > (bt167.2.1.length : Int) then (some ((⟨#[]⟩ : ByteArray), ([] : List Int), false)) else (if 0 ≤ bt167.1 then (if bt167.1 ≤ (bt167.2.1.length : Int) then (some (strOfNums (bt167.2.1.take (bt167.1 : Int).toNat), (bt167.2.1.drop (bt167.1 : Int).toNat), true)) else (none)) else (none))) else (some ((⟨#[]⟩ : ByteArray), ([] : List Int), false)))
theorem wire_CutText.mono : ∀ a0 k, LeO (wire_CutText.f k a0) (wire_CutText.f (k + 1) a0) := by
  intro a0 k
  unfold wire_CutText.f
  repeat' first
      | (with_reducible exact wire_CutNum.mono _ _)
      | (with_reducible exact LeO.refl _)
      | (with_reducible exact LeO.none _)
      | (with_reducible refine LeO.ite ?_ ?_)
      | (with_reducible refine LeO.bind ?_ (fun _ => ?_))
      | exact wire_CutNum.mono _ _
      | exact LeO.none _
      | refine LeO.ite ?_ ?_
      | refine LeO.bind ?_ (fun _ => ?_)
set_option maxHeartbeats 8000000 in
set_option maxRecDepth 100000 in
theorem wire_CutText.calls (k : Nat) (A0 : Option Addr) (c0 : Nat) (l0 : List Int) (r1 : ByteArray) (r2 : List Int) (r3 : Bool) (w : World) (hr0 : Kd.C (Kd.int .u8) w A0 l0.length l0) (hc0 : l0.length ≤ c0) (h : wire_CutText.f k l0 = some (r1, r2, r3)) :
    Calls Try.prog 33 #[.slice A0 l0.length c0] w fun e w' => ∃ v1_ : Value, e = .returned (.tuple #[.string r1, v1_, .bool r3]) ∧ Kd.Q (Kd.int .u8) 5 w' w.heap.size (fun _ => True) v1_ r2 ∧ Below w.heap.size w w' := by
  have HR0 := Aside0.mk hr0
  have HC0 := Aside0.mk hc0
  clear hr0 hc0
  have HB := Aside0.mk (Below.refl w.heap.size w)
  have H : ((wire_CutNum.f k l0).bind fun bt167 => (if bt167.2.2 = true then (if bt167.1 > (bt167.2.1.length : Int) then (some ((⟨#[]⟩ : ByteArray), ([] : List Int), false)) else (if 0 ≤ bt167.1 then (if bt167.1 ≤ (bt167.2.1.length : Int) then (some (strOfNums (bt167.2.1.take (bt167.1 : Int).toNat), (bt167.2.1.drop (bt167.1 : Int).toNat), true)) else (none)) else (none))) else (some ((⟨#[]⟩ : ByteArray), ([] : List Int), false)))) = some (r1, r2, r3) := h
  clear h
  replace H := Option.bind_eq_some_iff.mp H
  obtain ⟨⟨t167, t168, t169⟩, A20, H⟩ := H
  replace H : (if t169 = true then (if t167 > (t168.length : Int) then (some ((⟨#[]⟩ : ByteArray), ([] : List Int), false)) else (if 0 ≤ t167 then (if t167 ≤ (t168.length : Int) then (some (strOfNums (t168.take (t167 : Int).toNat), (t168.drop (t167 : Int).toNat), true)) else (none)) else (none))) else (some ((⟨#[]⟩ : ByteArray), ([] : List Int), false))) = some (r1, r2, r3) := H
  have A2 := Aside0.mk A20
  clear A20
  by_cases c3 : t169 = true
  · subst c3
    have H1 : (if t167 > (t168.length : Int) then (some ((⟨#[]⟩ : ByteArray), ([] : List Int), false)) else (if 0 ≤ t167 then (if t167 ≤ (t168.length : Int) then (some (strOfNums (t168.take (t167 : Int).toNat), (t168.drop (t167 : Int).toNat), true)) else (none)) else (none))) = some (r1, r2, r3) := by rw [if_pos rfl] at H; exact H
    clear H
    have H := H1
    clear H1
    by_cases c4 : t167 > (t168.length : Int)
    · rw [if_pos c4] at H
      have c4b0 : decide ((t168.length : Int) < t167) = true := decide_eq_true c4
      clear c4
      simp only [Option.some.injEq, Prod.mk.injEq] at H
      obtain ⟨rfl, rfl, rfl⟩ := H
      go_enter Try.func33, Try.ntmps33
      go_wp2_with (first | (go_at_call 26; (with_reducible refine (wire_CutNum.calls k _ _ l0 t167 t168 true _ ?side1 ?side2 A2.out).mono ?_); (case side1 => repeat (first | exact HR0.out | (with_reducible refine Kd.C_alloc ?_ _) | (with_reducible refine Kd.C_drewN ?_ _) | (with_reducible refine Kd.C_drew ?_))); (case side2 => exact HC0.out); rintro e w5 ⟨v170, rfl, ho0, hb⟩; have n0_ := Aside0.mk (Kd.R_lower ho0 (below_size (by repeat (first | (with_reducible first | exact HB.out | apply below_alloc | apply pw_below_drewN | apply below_drew1) | exact HB.out)))); have n1_ := Aside0.mk (below_step (by repeat (first | (with_reducible first | exact HB.out | apply below_alloc | apply pw_below_drewN | apply below_drew1) | exact HB.out)) hb); clear HB; have HO171 := n0_; have HB := n1_; clear n0_ n1_; (try clear hb); (try clear hb2); (try clear hk); (try clear hi); (try clear ho0); obtain ⟨Ao6, co6, eo6⟩ := Kd.R_slice HO171.out; subst eo6))
      repeat (go_quiet (first | (go_at_call 26; (with_reducible refine (wire_CutNum.calls k _ _ l0 t167 t168 true _ ?side1 ?side2 A2.out).mono ?_); (case side1 => repeat (first | exact HR0.out | (with_reducible refine Kd.C_alloc ?_ _) | (with_reducible refine Kd.C_drewN ?_ _) | (with_reducible refine Kd.C_drew ?_))); (case side2 => exact HC0.out); rintro e w5 ⟨v170, rfl, ho0, hb⟩; have n0_ := Aside0.mk (Kd.R_lower ho0 (below_size (by repeat (first | (with_reducible first | exact HB.out | apply below_alloc | apply pw_below_drewN | apply below_drew1) | exact HB.out)))); have n1_ := Aside0.mk (below_step (by repeat (first | (with_reducible first | exact HB.out | apply below_alloc | apply pw_below_drewN | apply below_drew1) | exact HB.out)) hb); clear HB; have HO171 := n0_; have HB := n1_; clear n0_ n1_; (try clear hb); (try clear hb2); (try clear hk); (try clear hi); (try clear ho0); obtain ⟨Ao6, co6, eo6⟩ := Kd.R_slice HO171.out; subst eo6)); try go_wp2_with (first | (go_at_call 26; (with_reducible refine (wire_CutNum.calls k _ _ l0 t167 t168 true _ ?side1 ?side2 A2.out).mono ?_); (case side1 => repeat (first | exact HR0.out | (with_reducible refine Kd.C_alloc ?_ _) | (with_reducible refine Kd.C_drewN ?_ _) | (with_reducible refine Kd.C_drew ?_))); (case side2 => exact HC0.out); rintro e w5 ⟨v170, rfl, ho0, hb⟩; have n0_ := Aside0.mk (Kd.R_lower ho0 (below_size (by repeat (first | (with_reducible first | exact HB.out | apply below_alloc | apply pw_below_drewN | apply below_drew1) | exact HB.out)))); have n1_ := Aside0.mk (below_step (by repeat (first | (with_reducible first | exact HB.out | apply below_alloc | apply pw_below_drewN | apply below_drew1) | exact HB.out)) hb); clear HB; have HO171 := n0_; have HB := n1_; clear n0_ n1_; (try clear hb); (try clear hb2); (try clear hk); (try clear hi); (try clear ho0); obtain ⟨Ao6, co6, eo6⟩ := Kd.R_slice HO171.out; subst eo6)))
      go_ret3
      exact ⟨_, by first | rfl | (simp [errW_none, errW_some] <;> rfl) | (simp [*, errW_none, errW_some] <;> rfl), Kd.Q_of_R (by first | exact Kd.R_nil _ _ _ _ _ | exact Kd.N_nil _ _ _ _ _ | exact Kd.V_nil _ _ _ _ _ | exact Kd.Q_nil _ _ _ _ _ | exact Kd.S_nil _ _ _ _ _), by repeat (first | (with_reducible first | exact HB.out | apply below_alloc | apply pw_below_drewN | apply below_drew1) | exact HB.out)⟩
    · rw [if_neg c4] at H
      have c4b0 : decide ((t168.length : Int) < t167) = false := decide_eq_false c4
      clear c4
      by_cases c7 : 0 ≤ t167
      · rw [if_pos c7] at H
        have c7b0 := eq_true c7
        have c7b1 : decide (0 ≤ t167) = true := decide_eq_true c7
        clear c7
        by_cases c8 : t167 ≤ (t168.length : Int)
        · rw [if_pos c8] at H
          have c8b0 := eq_true c8
          have c8b1 : decide (t167 ≤ (t168.length : Int)) = true := decide_eq_true c8
          clear c8
          obtain ⟨y172, hy172⟩ : ∃ y_ : List Int, y_ = (t168.take (t167 : Int).toNat) := ⟨_, rfl⟩
          replace H : (some (strOfNums y172, (t168.drop (t167 : Int).toNat), true)) = some (r1, r2, r3) := by first | (rw [hy172]; with_reducible exact H) | (have H2_ := (Option.bind_some _ _).symm.trans H; rw [hy172]; with_reducible exact H2_) | (have H2_ := (Option.bind_some _ _).symm.trans H; with_reducible exact H2_) | with_reducible exact H | (rw [hy172]; exact H) | exact H
          have Ny172 := Aside0.mk hy172
          clear hy172
          have c9b0 := eq_true (of_decide_eq_true (by first | (with_reducible assumption) | assumption) : t167 ≤ (t168.length : Int))
          obtain ⟨y176, hy176⟩ : ∃ y_ : List Int, y_ = (t168.drop (t167 : Int).toNat) := ⟨_, rfl⟩
          replace H : (some (strOfNums y172, y176, true)) = some (r1, r2, r3) := by first | (rw [hy176]; with_reducible exact H) | (have H2_ := (Option.bind_some _ _).symm.trans H; rw [hy176]; with_reducible exact H2_) | (have H2_ := (Option.bind_some _ _).symm.trans H; with_reducible exact H2_) | with_reducible exact H | (rw [hy176]; exact H) | exact H
          have Ny176 := Aside0.mk hy176
          clear hy176
          simp only [Option.some.injEq, Prod.mk.injEq] at H
          obtain ⟨rfl, rfl, rfl⟩ := H
          go_enter Try.func33, Try.ntmps33
          go_wp2_with (first | (go_at_call 26; (with_reducible refine (wire_CutNum.calls k _ _ l0 t167 t168 true _ ?side1 ?side2 A2.out).mono ?_); (case side1 => repeat (first | exact HR0.out | (with_reducible refine Kd.C_alloc ?_ _) | (with_reducible refine Kd.C_drewN ?_ _) | (with_reducible refine Kd.C_drew ?_))); (case side2 => exact HC0.out); rintro e w10 ⟨v170, rfl, ho0, hb⟩; have n0_ := Aside0.mk (Kd.R_lower ho0 (below_size (by repeat (first | (with_reducible first | exact HB.out | apply below_alloc | apply pw_below_drewN | apply below_drew1) | exact HB.out)))); have n1_ := Aside0.mk (below_step (by repeat (first | (with_reducible first | exact HB.out | apply below_alloc | apply pw_below_drewN | apply below_drew1) | exact HB.out)) hb); clear HB; have HO171 := n0_; have HB := n1_; clear n0_ n1_; (try clear hb); (try clear hb2); (try clear hk); (try clear hi); (try clear ho0); obtain ⟨Ao11, co11, eo11⟩ := Kd.R_slice HO171.out; subst eo11; have q12 : (t167 : Int) ≤ ((t168.length : Int) : Int) := of_decide_eq_true (by first | (with_reducible assumption) | assumption); obtain ⟨i012, hi012, _, hsz12, _⟩ := info_parts info5; have hroom12 : t168.length ≤ co11 := (Kd.R_reads' HO171.out).2.1; have hC12 : Kd.C (Kd.int .u8) _ Ao11 t168.length t168 := (Kd.R_reads' HO171.out).2.2; have hcut12 := cut_to (P := Try.prog) 25 5 .i64 Try.underlying25 hi012 Ao11 t168.length co11 t167 (of_decide_eq_true (by first | (with_reducible assumption) | assumption)) q12 hroom12; have hr12 := Kd.C_take (m := (t167 : Int).toNat) hC12 (by omega); have hy12 : y172.length = (t167 : Int).toNat := (by rw [Ny172.out, List.length_take]; omega); rw [← Ny172.out] at hr12; rw [← hy12] at hcut12; have HR175 := Aside0.mk hr12; have HC175 := Aside0.mk (show y172.length ≤ co11 from by omega); clear hr12 hC12 hroom12 hi012 hsz12; have KY12 := Aside0.mk hy12; clear hy12; have KL12 := Aside0.mk (show (t167 : Int).toNat ≤ t168.length from by omega); replace q12 := eq_true q12; have hcv13 := Kd.C_string (P := Try.prog) (A := Ao11) (c := co11) Try.underlying25 Try.underlying5 Try.underlying9 (by repeat (first | (with_reducible exact HR175.out) | (with_reducible refine Kd.C_alloc ?_ _) | (with_reducible refine Kd.C_drewN ?_ _) | (with_reducible refine Kd.C_drew ?_) | exact HR175.out)); have hcv14 := fun (m_ : Nat) => Kd.C_string (P := Try.prog) (A := Ao11) (c := co11) Try.underlying25 Try.underlying5 Try.underlying9 (Kd.C_drewN ((by repeat (first | (with_reducible exact HR175.out) | (with_reducible refine Kd.C_alloc ?_ _) | (with_reducible refine Kd.C_drewN ?_ _) | (with_reducible refine Kd.C_drew ?_) | exact HR175.out))) m_); have q15 : (t167 : Int) ≤ ((t168.length : Int) : Int) := of_decide_eq_true (by first | (with_reducible assumption) | assumption); obtain ⟨i015, hi015, _, hsz15, _⟩ := info_parts info5; have hcut15 := cut_from (P := Try.prog) 25 5 .i64 Try.underlying25 hi015 1 hsz15 Ao11 t168.length co11 t167 (of_decide_eq_true (by first | (with_reducible assumption) | assumption)) q15; have hr15 := Kd.Q_drop (k := (t167 : Int).toNat) (Kd.Q_of_R HO171.out) (by omega); obtain ⟨A15, hA15⟩ : ∃ A1, A1 = (if co11 = (t167 : Int).toNat then Ao11 else (Ao11 : Option Addr).map (·.add ((t167 : Int).toNat * 1))) := ⟨_, rfl⟩; obtain ⟨c15, hc15⟩ : ∃ c1, c1 = co11 - (t167 : Int).toNat := ⟨_, rfl⟩; have hy15 : y176.length = t168.length - (t167 : Int).toNat := (by rw [Ny176.out, List.length_drop]); rw [← Ny176.out] at hr15; rw [← hy15, ← hA15, ← hc15] at hcut15; replace hr15 : Kd.Q (Kd.int .u8) 5 w10 w.heap.size (fun _ => True) (.slice A15 y176.length c15) y176 := (by rw [hA15, hc15, hy15]; exact hr15); have HE15 : Aside0 ((Value.slice A15 y176.length c15).ownBlock = (.slice Ao11 t168.length co11 : Value).ownBlock) := ⟨by rw [hA15]; split <;> (cases (Ao11 : Option Addr) <;> first | rfl | simp [Value.ownBlock, add_block])⟩; clear hy15 hi015 hsz15 HO171 hA15 hc15; have HO178 := Aside0.mk hr15; clear hr15; replace q15 := eq_true q15))
          repeat (go_quiet (first | (go_at_call 26; (with_reducible refine (wire_CutNum.calls k _ _ l0 t167 t168 true _ ?side1 ?side2 A2.out).mono ?_); (case side1 => repeat (first | exact HR0.out | (with_reducible refine Kd.C_alloc ?_ _) | (with_reducible refine Kd.C_drewN ?_ _) | (with_reducible refine Kd.C_drew ?_))); (case side2 => exact HC0.out); rintro e w10 ⟨v170, rfl, ho0, hb⟩; have n0_ := Aside0.mk (Kd.R_lower ho0 (below_size (by repeat (first | (with_reducible first | exact HB.out | apply below_alloc | apply pw_below_drewN | apply below_drew1) | exact HB.out)))); have n1_ := Aside0.mk (below_step (by repeat (first | (with_reducible first | exact HB.out | apply below_alloc | apply pw_below_drewN | apply below_drew1) | exact HB.out)) hb); clear HB; have HO171 := n0_; have HB := n1_; clear n0_ n1_; (try clear hb); (try clear hb2); (try clear hk); (try clear hi); (try clear ho0); obtain ⟨Ao11, co11, eo11⟩ := Kd.R_slice HO171.out; subst eo11; have q12 : (t167 : Int) ≤ ((t168.length : Int) : Int) := of_decide_eq_true (by first | (with_reducible assumption) | assumption); obtain ⟨i012, hi012, _, hsz12, _⟩ := info_parts info5; have hroom12 : t168.length ≤ co11 := (Kd.R_reads' HO171.out).2.1; have hC12 : Kd.C (Kd.int .u8) _ Ao11 t168.length t168 := (Kd.R_reads' HO171.out).2.2; have hcut12 := cut_to (P := Try.prog) 25 5 .i64 Try.underlying25 hi012 Ao11 t168.length co11 t167 (of_decide_eq_true (by first | (with_reducible assumption) | assumption)) q12 hroom12; have hr12 := Kd.C_take (m := (t167 : Int).toNat) hC12 (by omega); have hy12 : y172.length = (t167 : Int).toNat := (by rw [Ny172.out, List.length_take]; omega); rw [← Ny172.out] at hr12; rw [← hy12] at hcut12; have HR175 := Aside0.mk hr12; have HC175 := Aside0.mk (show y172.length ≤ co11 from by omega); clear hr12 hC12 hroom12 hi012 hsz12; have KY12 := Aside0.mk hy12; clear hy12; have KL12 := Aside0.mk (show (t167 : Int).toNat ≤ t168.length from by omega); replace q12 := eq_true q12; have hcv13 := Kd.C_string (P := Try.prog) (A := Ao11) (c := co11) Try.underlying25 Try.underlying5 Try.underlying9 (by repeat (first | (with_reducible exact HR175.out) | (with_reducible refine Kd.C_alloc ?_ _) | (with_reducible refine Kd.C_drewN ?_ _) | (with_reducible refine Kd.C_drew ?_) | exact HR175.out)); have hcv14 := fun (m_ : Nat) => Kd.C_string (P := Try.prog) (A := Ao11) (c := co11) Try.underlying25 Try.underlying5 Try.underlying9 (Kd.C_drewN ((by repeat (first | (with_reducible exact HR175.out) | (with_reducible refine Kd.C_alloc ?_ _) | (with_reducible refine Kd.C_drewN ?_ _) | (with_reducible refine Kd.C_drew ?_) | exact HR175.out))) m_); have q15 : (t167 : Int) ≤ ((t168.length : Int) : Int) := of_decide_eq_true (by first | (with_reducible assumption) | assumption); obtain ⟨i015, hi015, _, hsz15, _⟩ := info_parts info5; have hcut15 := cut_from (P := Try.prog) 25 5 .i64 Try.underlying25 hi015 1 hsz15 Ao11 t168.length co11 t167 (of_decide_eq_true (by first | (with_reducible assumption) | assumption)) q15; have hr15 := Kd.Q_drop (k := (t167 : Int).toNat) (Kd.Q_of_R HO171.out) (by omega); obtain ⟨A15, hA15⟩ : ∃ A1, A1 = (if co11 = (t167 : Int).toNat then Ao11 else (Ao11 : Option Addr).map (·.add ((t167 : Int).toNat * 1))) := ⟨_, rfl⟩; obtain ⟨c15, hc15⟩ : ∃ c1, c1 = co11 - (t167 : Int).toNat := ⟨_, rfl⟩; have hy15 : y176.length = t168.length - (t167 : Int).toNat := (by rw [Ny176.out, List.length_drop]); rw [← Ny176.out] at hr15; rw [← hy15, ← hA15, ← hc15] at hcut15; replace hr15 : Kd.Q (Kd.int .u8) 5 w10 w.heap.size (fun _ => True) (.slice A15 y176.length c15) y176 := (by rw [hA15, hc15, hy15]; exact hr15); have HE15 : Aside0 ((Value.slice A15 y176.length c15).ownBlock = (.slice Ao11 t168.length co11 : Value).ownBlock) := ⟨by rw [hA15]; split <;> (cases (Ao11 : Option Addr) <;> first | rfl | simp [Value.ownBlock, add_block])⟩; clear hy15 hi015 hsz15 HO171 hA15 hc15; have HO178 := Aside0.mk hr15; clear hr15; replace q15 := eq_true q15)); try go_wp2_with (first | (go_at_call 26; (with_reducible refine (wire_CutNum.calls k _ _ l0 t167 t168 true _ ?side1 ?side2 A2.out).mono ?_); (case side1 => repeat (first | exact HR0.out | (with_reducible refine Kd.C_alloc ?_ _) | (with_reducible refine Kd.C_drewN ?_ _) | (with_reducible refine Kd.C_drew ?_))); (case side2 => exact HC0.out); rintro e w10 ⟨v170, rfl, ho0, hb⟩; have n0_ := Aside0.mk (Kd.R_lower ho0 (below_size (by repeat (first | (with_reducible first | exact HB.out | apply below_alloc | apply pw_below_drewN | apply below_drew1) | exact HB.out)))); have n1_ := Aside0.mk (below_step (by repeat (first | (with_reducible first | exact HB.out | apply below_alloc | apply pw_below_drewN | apply below_drew1) | exact HB.out)) hb); clear HB; have HO171 := n0_; have HB := n1_; clear n0_ n1_; (try clear hb); (try clear hb2); (try clear hk); (try clear hi); (try clear ho0); obtain ⟨Ao11, co11, eo11⟩ := Kd.R_slice HO171.out; subst eo11; have q12 : (t167 : Int) ≤ ((t168.length : Int) : Int) := of_decide_eq_true (by first | (with_reducible assumption) | assumption); obtain ⟨i012, hi012, _, hsz12, _⟩ := info_parts info5; have hroom12 : t168.length ≤ co11 := (Kd.R_reads' HO171.out).2.1; have hC12 : Kd.C (Kd.int .u8) _ Ao11 t168.length t168 := (Kd.R_reads' HO171.out).2.2; have hcut12 := cut_to (P := Try.prog) 25 5 .i64 Try.underlying25 hi012 Ao11 t168.length co11 t167 (of_decide_eq_true (by first | (with_reducible assumption) | assumption)) q12 hroom12; have hr12 := Kd.C_take (m := (t167 : Int).toNat) hC12 (by omega); have hy12 : y172.length = (t167 : Int).toNat := (by rw [Ny172.out, List.length_take]; omega); rw [← Ny172.out] at hr12; rw [← hy12] at hcut12; have HR175 := Aside0.mk hr12; have HC175 := Aside0.mk (show y172.length ≤ co11 from by omega); clear hr12 hC12 hroom12 hi012 hsz12; have KY12 := Aside0.mk hy12; clear hy12; have KL12 := Aside0.mk (show (t167 : Int).toNat ≤ t168.length from by omega); replace q12 := eq_true q12; have hcv13 := Kd.C_string (P := Try.prog) (A := Ao11) (c := co11) Try.underlying25 Try.underlying5 Try.underlying9 (by repeat (first | (with_reducible exact HR175.out) | (with_reducible refine Kd.C_alloc ?_ _) | (with_reducible refine Kd.C_drewN ?_ _) | (with_reducible refine Kd.C_drew ?_) | exact HR175.out)); have hcv14 := fun (m_ : Nat) => Kd.C_string (P := Try.prog) (A := Ao11) (c := co11) Try.underlying25 Try.underlying5 Try.underlying9 (Kd.C_drewN ((by repeat (first | (with_reducible exact HR175.out) | (with_reducible refine Kd.C_alloc ?_ _) | (with_reducible refine Kd.C_drewN ?_ _) | (with_reducible refine Kd.C_drew ?_) | exact HR175.out))) m_); have q15 : (t167 : Int) ≤ ((t168.length : Int) : Int) := of_decide_eq_true (by first | (with_reducible assumption) | assumption); obtain ⟨i015, hi015, _, hsz15, _⟩ := info_parts info5; have hcut15 := cut_from (P := Try.prog) 25 5 .i64 Try.underlying25 hi015 1 hsz15 Ao11 t168.length co11 t167 (of_decide_eq_true (by first | (with_reducible assumption) | assumption)) q15; have hr15 := Kd.Q_drop (k := (t167 : Int).toNat) (Kd.Q_of_R HO171.out) (by omega); obtain ⟨A15, hA15⟩ : ∃ A1, A1 = (if co11 = (t167 : Int).toNat then Ao11 else (Ao11 : Option Addr).map (·.add ((t167 : Int).toNat * 1))) := ⟨_, rfl⟩; obtain ⟨c15, hc15⟩ : ∃ c1, c1 = co11 - (t167 : Int).toNat := ⟨_, rfl⟩; have hy15 : y176.length = t168.length - (t167 : Int).toNat := (by rw [Ny176.out, List.length_drop]); rw [← Ny176.out] at hr15; rw [← hy15, ← hA15, ← hc15] at hcut15; replace hr15 : Kd.Q (Kd.int .u8) 5 w10 w.heap.size (fun _ => True) (.slice A15 y176.length c15) y176 := (by rw [hA15, hc15, hy15]; exact hr15); have HE15 : Aside0 ((Value.slice A15 y176.length c15).ownBlock = (.slice Ao11 t168.length co11 : Value).ownBlock) := ⟨by rw [hA15]; split <;> (cases (Ao11 : Option Addr) <;> first | rfl | simp [Value.ownBlock, add_block])⟩; clear hy15 hi015 hsz15 HO171 hA15 hc15; have HO178 := Aside0.mk hr15; clear hr15; replace q15 := eq_true q15)))
          go_ret3
          exact ⟨_, by first | rfl | (simp [errW_none, errW_some] <;> rfl) | (simp [*, errW_none, errW_some] <;> rfl), by (with_reducible repeat (first | apply Kd.Q_alloc | apply Kd.Q_drewN | apply Kd.Q_drew)); exact HO178.out, by repeat (first | (with_reducible first | exact HB.out | apply below_alloc | apply pw_below_drewN | apply below_drew1) | exact HB.out)⟩
        · rw [if_neg c8] at H
          exact absurd H (by simp)
      · rw [if_neg c7] at H
        exact absurd H (by simp)
  · replace c3 := Bool.eq_false_iff.mpr c3
    subst c3
    have H1 : (some ((⟨#[]⟩ : ByteArray), ([] : List Int), false)) = some (r1, r2, r3) := by rw [if_neg (show ¬ (false = true) by decide)] at H; exact H
    clear H
    have H := H1
    clear H1
    simp only [Option.some.injEq, Prod.mk.injEq] at H
    obtain ⟨rfl, rfl, rfl⟩ := H
    go_enter Try.func33, Try.ntmps33
    go_wp2_with (first | (go_at_call 26; (with_reducible refine (wire_CutNum.calls k _ _ l0 t167 t168 false _ ?side1 ?side2 A2.out).mono ?_); (case side1 => repeat (first | exact HR0.out | (with_reducible refine Kd.C_alloc ?_ _) | (with_reducible refine Kd.C_drewN ?_ _) | (with_reducible refine Kd.C_drew ?_))); (case side2 => exact HC0.out); rintro e w16 ⟨v170, rfl, ho0, hb⟩; have n0_ := Aside0.mk (Kd.R_lower ho0 (below_size (by repeat (first | (with_reducible first | exact HB.out | apply below_alloc | apply pw_below_drewN | apply below_drew1) | exact HB.out)))); have n1_ := Aside0.mk (below_step (by repeat (first | (with_reducible first | exact HB.out | apply below_alloc | apply pw_below_drewN | apply below_drew1) | exact HB.out)) hb); clear HB; have HO171 := n0_; have HB := n1_; clear n0_ n1_; (try clear hb); (try clear hb2); (try clear hk); (try clear hi); (try clear ho0)))
    repeat (go_quiet (first | (go_at_call 26; (with_reducible refine (wire_CutNum.calls k _ _ l0 t167 t168 false _ ?side1 ?side2 A2.out).mono ?_); (case side1 => repeat (first | exact HR0.out | (with_reducible refine Kd.C_alloc ?_ _) | (with_reducible refine Kd.C_drewN ?_ _) | (with_reducible refine Kd.C_drew ?_))); (case side2 => exact HC0.out); rintro e w16 ⟨v170, rfl, ho0, hb⟩; have n0_ := Aside0.mk (Kd.R_lower ho0 (below_size (by repeat (first | (with_reducible first | exact HB.out | apply below_alloc | apply pw_below_drewN | apply below_drew1) | exact HB.out)))); have n1_ := Aside0.mk (below_step (by repeat (first | (with_reducible first | exact HB.out | apply below_alloc | apply pw_below_drewN | apply below_drew1) | exact HB.out)) hb); clear HB; have HO171 := n0_; have HB := n1_; clear n0_ n1_; (try clear hb); (try clear hb2); (try clear hk); (try clear hi); (try clear ho0))); try go_wp2_with (first | (go_at_call 26; (with_reducible refine (wire_CutNum.calls k _ _ l0 t167 t168 false _ ?side1 ?side2 A2.out).mono ?_); (case side1 => repeat (first | exact HR0.out | (with_reducible refine Kd.C_alloc ?_ _) | (with_reducible refine Kd.C_drewN ?_ _) | (with_reducible refine Kd.C_drew ?_))); (case side2 => exact HC0.out); rintro e w16 ⟨v170, rfl, ho0, hb⟩; have n0_ := Aside0.mk (Kd.R_lower ho0 (below_size (by repeat (first | (with_reducible first | exact HB.out | apply below_alloc | apply pw_below_drewN | apply below_drew1) | exact HB.out)))); have n1_ := Aside0.mk (below_step (by repeat (first | (with_reducible first | exact HB.out | apply below_alloc | apply pw_below_drewN | apply below_drew1) | exact HB.out)) hb); clear HB; have HO171 := n0_; have HB := n1_; clear n0_ n1_; (try clear hb); (try clear hb2); (try clear hk); (try clear hi); (try clear ho0))))
    go_ret3
    exact ⟨_, by first | rfl | (simp [errW_none, errW_some] <;> rfl) | (simp [*, errW_none, errW_some] <;> rfl), Kd.Q_of_R (by first | exact Kd.R_nil _ _ _ _ _ | exact Kd.N_nil _ _ _ _ _ | exact Kd.V_nil _ _ _ _ _ | exact Kd.Q_nil _ _ _ _ _ | exact Kd.S_nil _ _ _ _ _), by repeat (first | (with_reducible first | exact HB.out | apply below_alloc | apply pw_below_drewN | apply below_drew1) | exact HB.out)⟩

/-! ### slot_cut: function 28 -/
def slot_cut.l0 (k : Nat) : Nat → List Int → List Int → Bool → Option (List Int × List Int × Bool)
  | 0, ns, b, ok => some (ns, b, ok)
  | m + 1, ns, b, ok => if ok = true then (wire_CutNum.f k b).bind fun t => slot_cut.l0 k m (ns ++ [t.1]) t.2.1 t.2.2 else slot_cut.l0 k m (ns ++ [0]) b ok
def slot_cut.f (k : Nat) (l0 : List Int) : Option (Int × Int × Int × Bool × ByteArray) := (slot_cut.l0 k 4 [] l0 true).bind fun t => (wire_CutText.f k t.2.1).bind fun u => some (rd t.1 0, rd t.1 1, rd t.1 2, rd t.1 3 == 1, u.1)
theorem slot_cut.mono_l (k : Nat) : ∀ m ns b ok, LeO (slot_cut.l0 k m ns b ok) (slot_cut.l0 (k + 1) m ns b ok)
  | 0, _, _, _ => LeO.refl _
  | m + 1, ns, b, ok => by
    unfold slot_cut.l0
    exact LeO.ite (LeO.bind (wire_CutNum.mono _ _) (fun _ => slot_cut.mono_l k m _ _ _)) (slot_cut.mono_l k m _ _ _)
theorem slot_cut.mono : ∀ a0 k, LeO (slot_cut.f k a0) (slot_cut.f (k + 1) a0) := fun a0 k =>
  LeO.bind (slot_cut.mono_l k 4 [] a0 true) (fun _ => LeO.bind (wire_CutText.mono _ _) (fun _ => LeO.refl _))
theorem slot_cut.len (k : Nat) : ∀ m ns b ok t, slot_cut.l0 k m ns b ok = some t → t.1.length = ns.length + m
  | 0, ns, b, ok, t, h => by obtain rfl := Option.some.inj h; rfl
  | m + 1, ns, b, ok, t, h => by
    unfold slot_cut.l0 at h
    split at h
    · obtain ⟨u, _, h⟩ := Option.bind_eq_some_iff.1 h
      have := slot_cut.len k m _ _ _ t h
      simp at this; omega
    · have := slot_cut.len k m _ _ _ t h
      simp at this; omega
set_option maxHeartbeats 2000000 in
set_option maxRecDepth 100000 in
theorem slot_cut.calls (k : Nat) (A0 : Option Addr) (c0 : Nat) (l0 : List Int) (r1 r2 r3 : Int) (r4 : Bool) (r5 : ByteArray) (w : World) (hr0 : Kd.C (Kd.int .u8) w A0 l0.length l0) (hc0 : l0.length ≤ c0) (h : slot_cut.f k l0 = some (r1, r2, r3, r4, r5)) :
    Calls Try.prog 28 #[.slice A0 l0.length c0] w fun e w' => e = .returned (.agg #[.int .i64 r1, .int .i64 r2, .int .i64 r3, .bool r4, .string r5]) ∧ Below w.heap.size w w' := by
  have HR := Aside0.mk hr0
  have HC := Aside0.mk hc0
  clear hr0 hc0
  obtain ⟨⟨ns, b, ok⟩, h1, h2⟩ := Option.bind_eq_some_iff.1 h
  obtain ⟨⟨s, rest, is⟩, h3, h4⟩ := Option.bind_eq_some_iff.1 h2
  have H1 := Aside0.mk h1
  have H3 := Aside0.mk h3
  simp only [Option.some.injEq, Prod.mk.injEq] at h4
  obtain ⟨rfl, rfl, rfl, rfl, rfl⟩ := h4
  clear h h1 h2 h3
  have hu1 := Try.underlying23
  have hu2 := Try.underlying58
  go_enter Try.func28, Try.ntmps28
  go_wp2_with fail
  go_loopw [0, 4, 9] (fun v0 v4 v9 w2 => ∃ (i : Nat) (ms bb : List Int) (A : Option Addr) (c : Nat) (o : Bool), v9 = .int .i64 (i : Int) ∧ v4 = .bool o ∧ v0 = .slice A bb.length c ∧ Aside0 (i ≤ 4 ∧ ms.length = i) ∧ Aside0 (slot_cut.l0 k (4 - i) ms bb o = some (ns, b, ok)) ∧ Aside0 (Kd.C (Kd.int .u8) w2 A bb.length bb ∧ bb.length ≤ c) ∧ Aside0 (w2.heap[w.heap.size]? = some (.cells #[.int .i64 0, .int .i64 0, .int .i64 0, .bool false, .string ⟨#[]⟩] 23 (0, 0))) ∧ Aside0 (w2.heap[w.heap.size + 1]? = some (.cells ((ms ++ List.replicate (4 - i) 0).map (Value.int .i64)).toArray 58 (0, 0))) ∧ Aside0 (Below w.heap.size w w2)) (fun _ _ i _ => 4 - (intOf i).toNat)
  case atStart =>
    refine ⟨0, [], l0, A0, c0, true, rfl, rfl, rfl, ⟨by simp⟩, H1, ⟨Kd.C_below HR.out (below_alloc (below_alloc (Below.refl _ _) _) _), HC.out⟩, ⟨(two_new w _ _).1⟩, ⟨(two_new w _ _).2⟩, ⟨below_alloc (below_alloc (Below.refl _ _) _) _⟩⟩
  case round =>
    obtain ⟨i, ms, bb, A1, c1, o, rfl, rfl, rfl, hi, HA, HCC, HV, HN, HB⟩ := hrel
    have hi4 := hi.out.1
    obtain ⟨d, hd⟩ : ∃ d, 4 - i = d := ⟨_, rfl⟩
    rw [hd] at HA HN
    by_cases hlt : i < 4
    · obtain ⟨m, rfl⟩ : ∃ m, d = m + 1 := ⟨d - 1, by omega⟩
      have hm : 4 - (i + 1) = m := by omega
      clear hd
      have HM := Aside0.mk hm
      clear hm
      have ha := HA.out
      unfold slot_cut.l0 at ha
      cases o with
      | true =>
        rw [if_pos rfl] at ha
        obtain ⟨⟨t1, t2, t3⟩, hx, ha⟩ := Option.bind_eq_some_iff.1 ha
        have HX := Aside0.mk hx
        have HA2 := Aside0.mk ha
        clear hx ha HA
        go_wp2_with (first
          | (go_at_call 26; (with_reducible refine (wire_CutNum.calls k A1 c1 bb t1 t2 t3 _ HCC.out.1 HCC.out.2 HX.out).mono ?_); rintro e w3 ⟨v1, rfl, ho, hb⟩; obtain ⟨A2, c2, rfl⟩ := Kd.R_slice ho; have HO := Aside0.mk ho; have HB2 := Aside0.mk hb; have HN3 := Aside0.mk ((hb.block _ (blk_lt HN.out)).trans HN.out); have HV3 := Aside0.mk ((hb.block _ (blk_lt HV.out)).trans HV.out); have hz := blk_cell HN3.out ms.length; rw [fill_cell, hi.out.2] at hz; have hfz := blk_frozen HN3.out i; clear ho hb))
        go_roundw
        case rel =>
          have hlt2 : w.heap.size + 1 < wr.heap.size := blk_lt HN.out
          have ho2 := Kd.R_far (p := ⟨w.heap.size + 1, i, none⟩) (Kd.R_mono (ok' := fun q => q ≠ w.heap.size + 1) (Kd.R_bound HO.out) (fun q hq => by have := hq.2.1; omega)) (fun _ hq => hq) (.int .i64 t1)
          have hs := blk_put HN3.out ms.length (.int .i64 t1) (fill_set (Value.int .i64) 0 t1 ms m)
          rw [hi.out.2] at hs
          have hm : 4 - (i + 1) = m := HM.out
          exact ⟨i + 1, ms ++ [t1], t2, A2, c2, t3, by go_num, rfl, rfl, ⟨by omega, by rw [List.length_append, hi.out.2]; rfl⟩, ⟨by rw [hm]; exact HA2.out⟩, ⟨(Kd.R_reads' ho2).2.2, (Kd.R_reads' ho2).2.1⟩, ⟨blk_far HV3.out (by simp) _⟩, ⟨by rw [hm]; exact hs⟩, ⟨(below_step HB.out HB2.out).setCell (by simp) _⟩⟩
        case measure => simp [intOf]; omega
      | false =>
        rw [if_neg (by decide)] at ha
        have HA2 := Aside0.mk ha
        clear ha HA
        go_wp2
        go_roundw
        case rel =>
          have hm : 4 - (i + 1) = m := HM.out
          exact ⟨i + 1, ms ++ [0], bb, A1, c1, false, by go_num, rfl, rfl, ⟨by omega, by rw [List.length_append, hi.out.2]; rfl⟩, ⟨by rw [hm]; exact HA2.out⟩, HCC, HV, ⟨by rw [hm, List.append_assoc]; exact HN.out⟩, HB⟩
        case measure => simp [intOf]; omega
    · have hd0 : d = 0 := by omega
      subst hd0
      have ha := HA.out
      unfold slot_cut.l0 at ha
      simp only [Option.some.injEq, Prod.mk.injEq] at ha
      obtain ⟨rfl, rfl, rfl⟩ := ha
      obtain ⟨n0, n1, n2, n3, rfl⟩ : ∃ n0 n1 n2 n3, ms = [n0, n1, n2, n3] := by
        have hl : ms.length = 4 := by have := hi.out.2; omega
        match ms, hl with
        | [a, b, c, d], _ => exact ⟨a, b, c, d, rfl⟩
      have hn4 : wr.heap[w.heap.size + 1]? = some (.cells #[.int .i64 n0, .int .i64 n1, .int .i64 n2, .int .i64 n3] 58 (0, 0)) := HN.out
      have HN4 := Aside0.mk hn4
      clear hd HA HN hn4
      go_wp2_with (first
        | (go_at_call 33; (with_reducible refine (wire_CutText.calls k A1 c1 bb s rest is _ HCC.out.1 HCC.out.2 H3.out).mono ?_); rintro e w3 ⟨v1, rfl, ho, hb⟩; have HB2 := Aside0.mk hb; have HN3 := Aside0.mk ((hb.block _ (blk_lt HN4.out)).trans HN4.out); have HV3 := Aside0.mk ((hb.block _ (blk_lt HV.out)).trans HV.out); have z0 := blk_cell HN3.out 0; have z1 := blk_cell HN3.out 1; have z2 := blk_cell HN3.out 2; have z3 := blk_cell HN3.out 3; have y0 := blk_cell HV3.out 0; have y1 := blk_cell HV3.out 1; have y2 := blk_cell HV3.out 2; have y3 := blk_cell HV3.out 3; have y4 := blk_cell HV3.out 4; have f0 := blk_frozen HV3.out 0; have f1 := blk_frozen HV3.out 1; have f2 := blk_frozen HV3.out 2; have f3 := blk_frozen HV3.out 3; have f4 := blk_frozen HV3.out 4; simp only [List.getElem?_toArray, List.getElem?_cons_zero, List.getElem?_cons_succ] at z0 z1 z2 z3 y0 y1 y2 y3 y4; clear ho hb))
      refine bodyPost_ret (results_single rfl (.cell w.heap.size 23 #[(.int .i64 n0), (.int .i64 n1), (.int .i64 n2), (.bool (n3 == 1)), (.string s)] (0, 0) _ rfl (by refine blk_put (cs := #[(.int .i64 n0), (.int .i64 n1), (.int .i64 n2), (.bool (n3 == 1)), .string ⟨#[]⟩]) ?_ 4 _ rfl; refine blk_put (cs := #[(.int .i64 n0), (.int .i64 n1), (.int .i64 n2), .bool false, .string ⟨#[]⟩]) ?_ 3 _ rfl; refine blk_put (cs := #[(.int .i64 n0), (.int .i64 n1), .int .i64 0, .bool false, .string ⟨#[]⟩]) ?_ 2 _ rfl; refine blk_put (cs := #[(.int .i64 n0), .int .i64 0, .int .i64 0, .bool false, .string ⟨#[]⟩]) ?_ 1 _ rfl; refine blk_put (cs := #[.int .i64 0, .int .i64 0, .int .i64 0, .bool false, .string ⟨#[]⟩]) ?_ 0 _ rfl; exact HV3.out) Try.underlying23 rfl (by kernel_rfl) .nil)) rfl ?_
      have hb0 := below_step HB.out HB2.out
      exact ⟨rfl, ((((hb0.setCell (Nat.le_refl _) _).setCell (Nat.le_refl _) _).setCell (Nat.le_refl _) _).setCell (Nat.le_refl _) _).setCell (Nat.le_refl _) _⟩

end Go.Proofs.Ytpjnaihpkmacjaa.X

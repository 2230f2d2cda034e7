/- A command, read, by the reference: it reads what the code reads. -/
import Derived.Test.YtpneppnnhiijnaaBCmdGet
import Derived.Test.YtpneppnnhiijnaaBRefCmd
import Derived.Test.YtpneppnnhiijnaaBRefAt
import Derived.Test.YtpneppnnhiijnaaXx11
import Derived.Test.YtpneppnnhiijnaaXx12
namespace Go.Proofs.Ytpneppnnhiijnaa.Pl
open Go.RowKit Go.Proofs.Ytpneppnnhiijnaa.X Go.Proofs.YtpneppnnhiijnaaW.PrintWords Go.Proofs.YtpneppnnhiijnaaW.PrintLast Go.Proofs.YtpneppnnhiijnaaW.PrintMore
/-- The texts from a place on, and where they end; or that one isn't whole. -/
def refTs (b : List Int) : Nat → List ByteArray → Nat → Option (List ByteArray × Nat)
  | 0, ls, p => some (ls, p)
  | m + 1, ls, p => if (cutText (b.drop p)).2.2 = true then refTs b m (ls ++ [(cutText (b.drop p)).1]) (p + 4 + (cutText (b.drop p)).1.size) else none
theorem refTs_ev {b : List Int} (hb : Bytes b) (hl : b.length ≤ 1000000) : ∀ (m : Nat) (ls : List ByteArray) (p : Nat), p ≤ b.length → shardlogref15_Get.l0 b m ls (p : Int) = some ((refTs b m ls p).map fun t => (t.1, (t.2 : Int)))
  | 0, ls, p, _ => rfl
  | m + 1, ls, p, hp => by
    have h1 := TextAt_eq hb (by omega) (i := p) (by omega)
    unfold shardlogref15_Get.l0 refTs
    rw [h1, Option.bind_some]
    unfold textAt
    by_cases hc : (cutText (b.drop p)).2.2 = true
    · have h2 := cutText_rest_length hc
      rw [List.length_drop] at h2
      rw [if_pos hc, if_pos hc, if_neg (by simp only; omega)]
      simp only
      rw [show wrap64 ((p : Int) + (4 + ((cutText (b.drop p)).1.size : Int))) = ((p + 4 + (cutText (b.drop p)).1.size : Nat) : Int) by rw [w64 (by omega) (by omega)]; omega]
      exact refTs_ev hb hl m _ _ (by omega)
    · rw [if_neg hc, if_neg hc, if_pos rfl]
      rfl
theorem refTs_cutTs {b : List Int} (hb : Bytes b) : ∀ (m : Nat) (ls : List ByteArray) (p : Nat), p ≤ b.length → match refTs b m ls p with
    | some t => cutTs m ls (b.drop p) true = (t.1, b.drop t.2, true) ∧ t.2 ≤ b.length
    | none => (cutTs m ls (b.drop p) true).2.2 = false
  | 0, ls, p, hp => ⟨rfl, hp⟩
  | m + 1, ls, p, hp => by
    unfold refTs
    by_cases hc : (cutText (b.drop p)).2.2 = true
    · rw [if_pos hc]
      have h2 := cutText_rest_length hc
      rw [List.length_drop] at h2
      have h3 := cutText_back (hb.drop p) hc
      have h4 : (cutText (b.drop p)).2.1 = b.drop (p + 4 + (cutText (b.drop p)).1.size) := by
        have aux : ∀ u v w : List Int, u = v ++ w → u.drop v.length = w := fun u v w h => by rw [h]; simp
        have h5 := aux _ _ _ h3.1
        rw [text_length h3.2.2, List.drop_drop] at h5
        rw [← h5]
        congr 1
        omega
      have ih := refTs_cutTs hb m (ls ++ [(cutText (b.drop p)).1]) (p + 4 + (cutText (b.drop p)).1.size) (by omega)
      rw [← h4] at ih
      unfold cutTs
      rw [if_pos rfl, hc]
      exact ih
    · rw [if_neg hc]
      have hf : (cutText (b.drop p)).2.2 = false := by simpa using hc
      unfold cutTs
      rw [if_pos rfl, hf]
      have : ∀ (m : Nat) (ls : List ByteArray) (b : List Int), (cutTs m ls b false).2.2 = false := by
        intro m
        induction m with
        | zero => intro ls b; rfl
        | succ m ih => intro ls b; unfold cutTs; rw [if_neg Bool.false_ne_true]; exact ih _ _
      exact this _ _ _
theorem cutNs_false : ∀ (m : Nat) (ns b : List Int), (cutNs m ns b false).2.2 = false
  | 0, _, _ => rfl
  | m + 1, ns, b => by unfold cutNs; rw [if_neg Bool.false_ne_true]; exact cutNs_false m _ _
theorem cutTs_false : ∀ (m : Nat) (ls : List ByteArray) (b : List Int), (cutTs m ls b false).2.2 = false
  | 0, _, _ => rfl
  | m + 1, ls, b => by unfold cutTs; rw [if_neg Bool.false_ne_true]; exact cutTs_false m _ _
theorem cutNs_short : ∀ (m : Nat) (ns b : List Int), b.length < 4 * m → (cutNs m ns b true).2.2 = false
  | 0, _, _, h => by omega
  | m + 1, ns, b, h => by
    unfold cutNs
    rw [if_pos rfl]
    by_cases h4 : b.length < 4
    · rw [show cutNum b = (0, [], false) by unfold cutNum; rw [if_pos h4]]
      exact cutNs_false m _ _
    · rw [show cutNum b = (val4 b, b.drop 4, true) by unfold cutNum; rw [if_neg h4]]
      exact cutNs_short m _ _ (by rw [List.length_drop]; omega)
theorem cutNs_long {b : List Int} (h : 20 ≤ b.length) : cutNs 5 [] b true = ([val4 b, val4 (b.drop 4), val4 (b.drop 8), val4 (b.drop 12), val4 (b.drop 16)], b.drop 20, true) := by
  have hc : ∀ n, n + 4 ≤ b.length → cutNum (b.drop n) = (val4 (b.drop n), b.drop (n + 4), true) := by
    intro n hn
    unfold cutNum
    rw [if_neg (by rw [List.length_drop]; omega), List.drop_drop]
  have h0 := hc 0 (by omega)
  rw [List.drop_zero] at h0
  simp only [cutNs, if_true, h0, hc 4 (by omega), hc 8 (by omega), hc 12 (by omega), hc 16 (by omega), List.nil_append, List.cons_append, Nat.zero_add]
/-- What the reference reads. -/
def refGetC (b : List Int) : Option (Cmd × Bool) :=
  if b.length < 20 then none else (refTs b 5 [] 20).map fun t => (⟨val4 b, val4 (b.drop 4), val4 (b.drop 8), cmd_Get.nth t.1 0, cmd_Get.nth t.1 1, cmd_Get.nth t.1 2, val4 (b.drop 12), cmd_Get.nth t.1 3, cmd_Get.nth t.1 4, val4 (b.drop 16) == 1⟩, decide (t.2 = b.length) && (decide (val4 (b.drop 16) ≤ 1) && rightCmd ⟨val4 b, val4 (b.drop 4), val4 (b.drop 8), cmd_Get.nth t.1 0, cmd_Get.nth t.1 1, cmd_Get.nth t.1 2, val4 (b.drop 12), cmd_Get.nth t.1 3, cmd_Get.nth t.1 4, val4 (b.drop 16) == 1⟩))
def tupRef (o : Option (Cmd × Bool)) : shardlogref15_Get.T := match o with
  | none => shardlogref15_Get.bad
  | some t => (t.1.f0, t.1.f1, t.1.f2, t.1.f3, t.1.f4, t.1.f5, t.1.f6, t.1.f7, t.1.f8, t.1.f9, t.2)
theorem ref_get_ev {s : ByteArray} (hl : s.size ≤ 1000000) : Ev (fun k => shardlogref15_Get.f k s) (tupRef (refGetC (bytesOf s))) := by
  have hb := bytes_bytesOf s
  have hz := bytesOf_size s
  unfold shardlogref15_Get.f refGetC
  refine Ev.pos (by omega) ?_
  generalize bytesOf s = b at *
  by_cases h20 : b.length < 20
  · rw [if_pos h20]
    exact Ev.pos (by omega) (Ev.now _)
  · rw [if_neg h20]
    refine Ev.neg (by omega) ?_
    have h1 := refTs_ev hb (by omega) 5 [] 20 (by omega)
    refine Ev.bind (Ev.eq h1) ?_
    cases ht : refTs b 5 [] 20 with
    | none => exact Ev.now _
    | some t =>
      simp only [Option.map_some]
      have hat : ∀ i : Nat, i + 4 ≤ b.length → shardlogref01_At.f b (i : Int) = some (val4 (b.drop i)) := by
        intro i hi
        rw [At_eq hb (by omega) (by omega)]
        unfold numAt
        rw [if_neg (by omega)]
      have a0 := hat 0 (by omega); have a1 := hat 4 (by omega); have a2 := hat 8 (by omega); have a3 := hat 12 (by omega); have a4 := hat 16 (by omega)
      rw [List.drop_zero] at a0
      show Ev (fun k => shardlogref15_Get.mid k b t.1 (t.2 : Int)) _
      unfold shardlogref15_Get.mid
      refine Ev.bind (Ev.eq a4) (Ev.bind (Ev.eq a0) (Ev.bind (Ev.eq a1) (Ev.bind (Ev.eq a2) (Ev.bind (Ev.eq a3) ?_))))
      unfold shardlogref15_Get.fin
      by_cases hp : t.2 = b.length
      · refine Ev.pos (by omega) ?_
        by_cases h4 : val4 (b.drop 16) ≤ 1
        · refine Ev.pos h4 (Ev.bind (ref_right_ev ⟨val4 b, val4 (b.drop 4), val4 (b.drop 8), cmd_Get.nth t.1 0, cmd_Get.nth t.1 1, cmd_Get.nth t.1 2, val4 (b.drop 12), cmd_Get.nth t.1 3, cmd_Get.nth t.1 4, val4 (b.drop 16) == 1⟩) ((Ev.now _).to ?_))
          rw [decide_eq_true hp, decide_eq_true h4]
          rfl
        · refine Ev.neg h4 ((Ev.now _).to ?_)
          rw [decide_eq_false h4, Bool.false_and, Bool.and_false]
          rfl
      · refine Ev.neg (by omega) ((Ev.now _).to ?_)
        rw [decide_eq_false hp, Bool.false_and]
        rfl
theorem num_inj {a c : Int} (h0 : 0 ≤ a) (h1 : a ≤ 4294967295) (h2 : 0 ≤ c) (h3 : c ≤ 4294967295) (h : num a = num c) : a = c := by
  have e1 := val4_num h0 h1 []
  have e2 := val4_num h2 h3 []
  rw [h, e2] at e1
  exact e1.symm
theorem cutTs_length : ∀ (m : Nat) (ls : List ByteArray) (b : List Int) (ok : Bool), (cutTs m ls b ok).1.length = ls.length + m
  | 0, _, _, _ => rfl
  | m + 1, ls, b, ok => by
    unfold cutTs
    split <;> rw [cutTs_length m] <;> simp <;> omega
theorem cutTs_back {b : List Int} (hb : Bytes b) : ∀ (m : Nat) (ls : List ByteArray), (cutTs m ls b true).2.2 = true → ∃ l, (cutTs m ls b true).1 = ls ++ l ∧ b = (l.map text).flatten ++ (cutTs m ls b true).2.1 := by
  intro m
  induction m generalizing b with
  | zero => intro ls _; exact ⟨[], by simp [cutTs], by simp [cutTs]⟩
  | succ m ih =>
    intro ls h
    unfold cutTs at h ⊢
    rw [if_pos rfl] at h ⊢
    cases hc : (cutText b).2.2 with
    | false => rw [hc, cutTs_false] at h; cases h
    | true =>
      rw [hc] at h
      obtain ⟨l, h1, h2⟩ := ih (cutText_rest_bytes hb) _ h
      refine ⟨(cutText b).1 :: l, by rw [h1]; simp, ?_⟩
      have h3 := (cutText_back hb hc).1
      rw [List.map_cons, List.flatten_cons, List.append_assoc, ← h2]
      exact h3
/-- Both read the same. -/
theorem get_same (s : ByteArray) : (getOk s = true ∧ refGetC (bytesOf s) = some ((cutC (bytesOf s)).1, true)) ∨ (getOk s = false ∧ ∀ c, refGetC (bytesOf s) ≠ some (c, true)) := by
  have hb := bytes_bytesOf s
  unfold getOk refGetC
  generalize bytesOf s = b at *
  by_cases h20 : b.length < 20
  · right
    rw [if_pos h20]
    refine ⟨?_, fun c h => by cases h⟩
    have h1 := cutNs_short 5 [] b (by omega)
    have : (cutC b).2 = false := by
      unfold cutC
      simp only
      rw [h1]
      exact cutTs_false _ _ _
    rw [this, Bool.false_and]
  · rw [if_neg h20]
    have hN := cutNs_long (b := b) (by omega)
    have hT := refTs_cutTs hb 5 [] 20 (by omega)
    cases ht : refTs b 5 [] 20 with
    | none =>
      rw [ht] at hT
      right
      refine ⟨?_, fun c h => by cases h⟩
      have : (cutC b).2 = false := by
        unfold cutC
        simp only
        rw [hN]
        exact hT
      rw [this, Bool.false_and]
    | some t =>
      rw [ht] at hT
      obtain ⟨hT, htl⟩ := hT
      obtain ⟨c, hc⟩ : ∃ c : Cmd, c = ⟨val4 b, val4 (b.drop 4), val4 (b.drop 8), cmd_Get.nth t.1 0, cmd_Get.nth t.1 1, cmd_Get.nth t.1 2, val4 (b.drop 12), cmd_Get.nth t.1 3, cmd_Get.nth t.1 4, val4 (b.drop 16) == 1⟩ := ⟨_, rfl⟩
      have hC : cutC b = (c, true) := by
        unfold cutC
        rw [hN]
        simp only
        rw [hT, hc]
        rfl
      rw [hC]
      simp only [Bool.true_and]
      have hlen : t.1.length = 5 := by
        have := cutTs_length 5 [] (b.drop 20) true
        rw [hT] at this
        simpa using this
      obtain ⟨l, hl1, hl2⟩ := cutTs_back (hb.drop 20) 5 [] (by rw [hT])
      rw [hT] at hl1 hl2
      simp only [List.nil_append] at hl1 hl2
      obtain ⟨s0, s1, s2, s3, s4, htl5⟩ : ∃ s0 s1 s2 s3 s4, t.1 = [s0, s1, s2, s3, s4] := by
        match t.1, hlen with
        | [a, b, c, d, e], _ => exact ⟨a, b, c, d, e, rfl⟩
      have hv := fun (n : Nat) (hn : n + 4 ≤ b.length) => val4_nonneg (hb.drop n) (by rw [List.length_drop]; omega)
      have hnv := fun (n : Nat) (hn : n + 4 ≤ b.length) => num_val4 (hb.drop n) (by rw [List.length_drop]; omega)
      have hb20 : b = num (val4 b) ++ (num (val4 (b.drop 4)) ++ (num (val4 (b.drop 8)) ++ (num (val4 (b.drop 12)) ++ (num (val4 (b.drop 16)) ++ b.drop 20)))) := by
        have e0 := hnv 0 (by omega)
        rw [List.drop_zero] at e0
        have sp : ∀ n, b.drop n = (b.drop n).take 4 ++ b.drop (n + 4) := fun n => by
          have := (List.take_append_drop 4 (b.drop n)).symm
          rw [List.drop_drop] at this
          exact this
        rw [e0, hnv 4 (by omega), hnv 8 (by omega), hnv 12 (by omega), hnv 16 (by omega), ← sp 16, ← sp 12, ← sp 8, ← sp 4, List.take_append_drop]
      have hcb : cmdB c = num (val4 b) ++ (num (val4 (b.drop 4)) ++ (num (val4 (b.drop 8)) ++ (num (val4 (b.drop 12)) ++ (num (hasC c) ++ (l.map text).flatten)))) := by
        rw [hc, ← hl1, htl5]
        simp [cmdB, numsC, textsC, cmd_Get.nth]
      have h9 : c.f9 = (val4 (b.drop 16) == 1) := by rw [hc]
      have h16 := hv 16 (by omega)
      have hhas : hasC c = if val4 (b.drop 16) = 1 then 1 else 0 := by
        unfold hasC
        rw [h9]
        by_cases e : val4 (b.drop 16) = 1
        · rw [if_pos e, e]
          rfl
        · rw [if_neg e, show (val4 (b.drop 16) == 1) = false by simpa using e]
          rfl
      have hhl : 0 ≤ hasC c ∧ hasC c ≤ 4294967295 := by rw [hhas]; split <;> omega
      have key : cmdB c = b ↔ t.2 = b.length ∧ val4 (b.drop 16) ≤ 1 := by
        constructor
        · intro h
          rw [hcb] at h
          have h1 : num (hasC c) ++ (l.map text).flatten = num (val4 (b.drop 16)) ++ b.drop 20 := by
            have h2 := h.trans hb20
            exact List.append_cancel_left (List.append_cancel_left (List.append_cancel_left (List.append_cancel_left h2)))
          have h3 := List.append_inj h1 (by rw [num_length hhl.1 hhl.2, num_length h16.1 h16.2])
          have h4 := num_inj hhl.1 hhl.2 h16.1 h16.2 h3.1
          have h5 := h3.2.symm.trans (h3.2.trans hl2)
          have h6 : b.drop t.2 = [] := by
            have := hl2
            rw [← h3.2] at this
            have h7 := congrArg List.length this
            rw [List.length_append] at h7
            exact List.length_eq_zero_iff.1 (by omega)
          have h7 := congrArg List.length h6
          rw [List.length_drop, List.length_nil] at h7
          refine ⟨by omega, ?_⟩
          rw [hhas] at h4
          split at h4 <;> omega
        · rintro ⟨h1, h2⟩
          have h3 : hasC c = val4 (b.drop 16) := by rw [hhas]; split <;> omega
          have h4 : b.drop 20 = (l.map text).flatten := by
            rw [h1, List.drop_length, List.append_nil] at hl2
            exact hl2
          rw [hcb, h3, ← h4]
          exact hb20.symm
      simp only [Option.map_some]
      rw [← hc]
      by_cases hr : rightCmd c = true
      · by_cases hk : cmdB c = b
        · left
          obtain ⟨k1, k2⟩ := key.1 hk
          exact ⟨by rw [hr, decide_eq_true hk]; rfl, by rw [decide_eq_true k1, decide_eq_true k2, hr]; rfl⟩
        · right
          refine ⟨by rw [decide_eq_false hk, Bool.and_false], fun c' h => ?_⟩
          have h1 := (Prod.mk.inj (Option.some.inj h)).2
          rw [Bool.and_eq_true, Bool.and_eq_true, decide_eq_true_iff, decide_eq_true_iff] at h1
          exact hk (key.2 ⟨h1.1, h1.2.1⟩)
      · right
        have hr' : rightCmd c = false := by simpa using hr
        refine ⟨by rw [hr', Bool.false_and], fun c' h => ?_⟩
        have h1 := (Prod.mk.inj (Option.some.inj h)).2
        rw [hr', Bool.and_false, Bool.and_false] at h1
        cases h1
end Go.Proofs.Ytpneppnnhiijnaa.Pl

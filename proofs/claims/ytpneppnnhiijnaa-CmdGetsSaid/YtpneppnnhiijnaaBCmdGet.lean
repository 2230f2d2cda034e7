/- A command, read: the printed function answers the plain one. -/
import Derived.Test.YtpneppnnhiijnaaBCmd
import Derived.Test.YtpneppnnhiijnaaXx7
namespace Go.Proofs.Ytpneppnnhiijnaa.Pl
open Go.RowKit Go.Proofs.Ytpneppnnhiijnaa.X Go.Proofs.YtpneppnnhiijnaaW.PrintWords Go.Proofs.YtpneppnnhiijnaaW.PrintLast Go.Proofs.YtpneppnnhiijnaaW.PrintMore
def cutNs : Nat → List Int → List Int → Bool → List Int × List Int × Bool
  | 0, ns, b, ok => (ns, b, ok)
  | m + 1, ns, b, ok => if ok = true then cutNs m (ns ++ [(cutNum b).1]) (cutNum b).2.1 (cutNum b).2.2 else cutNs m (ns ++ [0]) b ok
def cutTs : Nat → List ByteArray → List Int → Bool → List ByteArray × List Int × Bool
  | 0, ls, b, ok => (ls, b, ok)
  | m + 1, ls, b, ok => if ok = true then cutTs m (ls ++ [(cutText b).1]) (cutText b).2.1 (cutText b).2.2 else cutTs m (ls ++ [⟨#[]⟩]) b ok
theorem cutNum_rest {b : List Int} (hb : Bytes b) : Bytes (cutNum b).2.1 ∧ (cutNum b).2.1.length ≤ b.length := by
  unfold cutNum
  split
  · exact ⟨Bytes.nil, by simp⟩
  · exact ⟨hb.drop 4, by simp only [List.length_drop]; omega⟩
theorem cutNs_rest : ∀ (m : Nat) (ns b : List Int) (ok : Bool), Bytes b → Bytes (cutNs m ns b ok).2.1 ∧ (cutNs m ns b ok).2.1.length ≤ b.length
  | 0, _, _, _, h => ⟨h, Nat.le_refl _⟩
  | m + 1, ns, b, ok, h => by
    unfold cutNs
    split
    · have h1 := cutNum_rest h
      have h2 := cutNs_rest m (ns ++ [(cutNum b).1]) _ (cutNum b).2.2 h1.1
      exact ⟨h2.1, Nat.le_trans h2.2 h1.2⟩
    · exact cutNs_rest m _ b ok h
theorem get_l0_ev : ∀ (m : Nat) (ns b : List Int) (ok : Bool), Bytes b → b.length ≤ 140737488355328 → Ev (fun k => cmd_Get.l0 k m ns b ok) (cutNs m ns b ok)
  | 0, _, _, _, _, _ => Ev.now _
  | m + 1, ns, b, ok, h, hl => by
    unfold cmd_Get.l0 cutNs
    have h1 := cutNum_rest h
    cases ok with
    | true =>
      rw [if_pos rfl]
      exact Ev.pos rfl (Ev.bind (wire_CutNum_ev h hl) (get_l0_ev m _ _ _ h1.1 (Nat.le_trans h1.2 hl)))
    | false =>
      rw [if_neg Bool.false_ne_true]
      exact Ev.neg Bool.false_ne_true (get_l0_ev m _ _ _ h hl)
theorem get_l1_ev : ∀ (m : Nat) (ls : List ByteArray) (b : List Int) (ok : Bool), Bytes b → b.length ≤ 140737488355328 → Ev (fun k => cmd_Get.l1 k m ls b ok) (cutTs m ls b ok)
  | 0, _, _, _, _, _ => Ev.now _
  | m + 1, ls, b, ok, h, hl => by
    unfold cmd_Get.l1 cutTs
    cases ok with
    | true =>
      rw [if_pos rfl]
      exact Ev.pos rfl (Ev.bind (wire_CutText_ev h hl) (get_l1_ev m _ _ _ (cutText_rest_bytes h) (Nat.le_trans cutText_rest_le hl)))
    | false =>
      rw [if_neg Bool.false_ne_true]
      exact Ev.neg Bool.false_ne_true (get_l1_ev m _ _ _ h hl)
def mkC (ns : List Int) (ls : List ByteArray) : Cmd := ⟨rd ns 0, rd ns 1, rd ns 2, cmd_Get.nth ls 0, cmd_Get.nth ls 1, cmd_Get.nth ls 2, rd ns 3, cmd_Get.nth ls 3, cmd_Get.nth ls 4, rd ns 4 == 1⟩
/-- What stands in bytes, whole or not. -/
def cutC (b : List Int) : Cmd × Bool := (mkC (cutNs 5 [] b true).1 (cutTs 5 [] (cutNs 5 [] b true).2.1 (cutNs 5 [] b true).2.2).1, (cutTs 5 [] (cutNs 5 [] b true).2.1 (cutNs 5 [] b true).2.2).2.2)
def tupCmd (c : Cmd) (e : Int) : cmd_Get.T := (c.f0, c.f1, c.f2, c.f3, c.f4, c.f5, c.f6, c.f7, c.f8, c.f9, e)
def getOk (s : ByteArray) : Bool := (cutC (bytesOf s)).2 && (rightCmd (cutC (bytesOf s)).1 && decide (cmdB (cutC (bytesOf s)).1 = bytesOf s))
def getC (s : ByteArray) : cmd_Get.T := if getOk s = true then tupCmd (cutC (bytesOf s)).1 0 else cmd_Get.bad
theorem str_eq {b : List Int} (hb : Bytes b) (s : ByteArray) : (strOfNums b).toList = s.toList ↔ b = bytesOf s := by
  constructor
  · intro h
    rw [← toList_inj h, bytesOf_strOf hb]
  · rintro rfl
    rw [strOf_bytesOf]
theorem fin_ev (s : ByteArray) (c : Cmd) (ok : Bool) : Ev (fun k => cmd_Get.fin k s c.f0 c.f1 c.f2 (c.f6) (if c.f9 = true then 1 else 0) c.f3 c.f4 c.f5 c.f7 c.f8 ok) (if (ok && (rightCmd c && decide (cmdB c = bytesOf s))) = true then tupCmd c 0 else cmd_Get.bad) := by
  have h9 : ((if c.f9 = true then (1 : Int) else 0) == 1) = c.f9 := by cases c.f9 <;> rfl
  unfold cmd_Get.fin
  cases ok with
  | false => exact Ev.neg Bool.false_ne_true (Ev.now _)
  | true =>
    refine Ev.pos rfl ?_
    rw [h9]
    refine Ev.bind (right_ev c) ?_
    cases h : rightCmd c with
    | false => exact Ev.neg Bool.false_ne_true (Ev.now _)
    | true =>
      have hs : soundC c = true := by
        unfold rightCmd at h
        exact (Bool.and_eq_true _ _ ▸ h).1
      refine Ev.pos rfl (Ev.bind (bytes_ev (sound_small hs)) ?_)
      by_cases e : cmdB c = bytesOf s
      · rw [decide_eq_true e]
        exact Ev.pos ((str_eq (bytes_cmdB c) s).2 e) (Ev.now _)
      · rw [decide_eq_false e]
        exact Ev.neg (fun h => e ((str_eq (bytes_cmdB c) s).1 h)) (Ev.now _)
theorem fin_ev' (s : ByteArray) (n0 n1 n2 n3 n4 : Int) (s0 s1 s2 s3 s4 : ByteArray) (ok : Bool) : Ev (fun k => cmd_Get.fin k s n0 n1 n2 n3 n4 s0 s1 s2 s3 s4 ok) (if (ok && (rightCmd ⟨n0, n1, n2, s0, s1, s2, n3, s3, s4, n4 == 1⟩ && decide (cmdB ⟨n0, n1, n2, s0, s1, s2, n3, s3, s4, n4 == 1⟩ = bytesOf s))) = true then tupCmd ⟨n0, n1, n2, s0, s1, s2, n3, s3, s4, n4 == 1⟩ 0 else cmd_Get.bad) := by
  have h := fin_ev s ⟨n0, n1, n2, s0, s1, s2, n3, s3, s4, n4 == 1⟩ ok
  have e : ∀ k, cmd_Get.fin k s n0 n1 n2 n3 (if (n4 == 1) = true then 1 else 0) s0 s1 s2 s3 s4 ok = cmd_Get.fin k s n0 n1 n2 n3 n4 s0 s1 s2 s3 s4 ok := by
    intro k
    have : ((if (n4 == 1) = true then (1 : Int) else 0) == 1) = (n4 == 1) := by cases (n4 == 1) <;> rfl
    unfold cmd_Get.fin
    rw [this]
  simp only [e] at h
  exact h
theorem get_ev {s : ByteArray} (hl : s.size ≤ 140737488355328) : Ev (fun k => cmd_Get.f k s) (getC s) := by
  unfold cmd_Get.f
  have hb := bytes_bytesOf s
  have hz := bytesOf_size s
  have h1 := cutNs_rest 5 [] (bytesOf s) true hb
  refine Ev.pos (by omega) (Ev.bind (get_l0_ev 5 [] _ true hb (by omega)) (Ev.bind (get_l1_ev 5 [] _ _ h1.1 (by omega)) ?_))
  exact fin_ev' _ _ _ _ _ _ _ _ _ _ _ _
theorem cutNs_nums (f0 f1 f2 f3 f4 : Int) (r : List Int) (h0 : 0 ≤ f0 ∧ f0 ≤ 4294967295) (h1 : 0 ≤ f1 ∧ f1 ≤ 4294967295) (h2 : 0 ≤ f2 ∧ f2 ≤ 4294967295) (h3 : 0 ≤ f3 ∧ f3 ≤ 4294967295) (h4 : 0 ≤ f4 ∧ f4 ≤ 4294967295) : cutNs 5 [] (num f0 ++ (num f1 ++ (num f2 ++ (num f3 ++ (num f4 ++ r))))) true = ([f0, f1, f2, f3, f4], r, true) := by
  simp only [cutNs, cutNum_num h0.1 h0.2, cutNum_num h1.1 h1.2, cutNum_num h2.1 h2.2, cutNum_num h3.1 h3.2, cutNum_num h4.1 h4.2, if_true, List.nil_append, List.cons_append]
theorem cutTs_texts (s0 s1 s2 s3 s4 : ByteArray) (r : List Int) (h0 : s0.size ≤ 10000) (h1 : s1.size ≤ 10000) (h2 : s2.size ≤ 10000) (h3 : s3.size ≤ 10000) (h4 : s4.size ≤ 10000) : cutTs 5 [] (text s0 ++ (text s1 ++ (text s2 ++ (text s3 ++ (text s4 ++ r))))) true = ([s0, s1, s2, s3, s4], r, true) := by
  simp only [cutTs, cutText_text (show s0.size ≤ 4294967295 by omega), cutText_text (show s1.size ≤ 4294967295 by omega), cutText_text (show s2.size ≤ 4294967295 by omega), cutText_text (show s3.size ≤ 4294967295 by omega), cutText_text (show s4.size ≤ 4294967295 by omega), if_true, List.nil_append, List.cons_append]
theorem cutC_cmdB {c : Cmd} (h : soundC c = true) (r : List Int) : cutC (cmdB c ++ r) = (c, true) := by
  have hs := sound_small h
  have hp := of_decide_eq_true h
  unfold SoundP at hp
  have hh : 0 ≤ hasC c ∧ hasC c ≤ 4294967295 := by unfold hasC; cases c.f9 <;> simp
  have e : cmdB c ++ r = num c.f0 ++ (num c.f1 ++ (num c.f2 ++ (num c.f6 ++ (num (hasC c) ++ (text c.f3 ++ (text c.f4 ++ (text c.f5 ++ (text c.f7 ++ (text c.f8 ++ r))))))))) := by
    simp [cmdB, numsC, textsC]
  unfold cutC
  rw [e, cutNs_nums _ _ _ _ _ _ (by omega) (by omega) (by omega) (by omega) hh]
  simp only
  rw [cutTs_texts _ _ _ _ _ _ hs.1 hs.2.1 hs.2.2.1 hs.2.2.2.1 hs.2.2.2.2]
  simp only [Prod.mk.injEq, and_true]
  have h9 : (hasC c == 1) = c.f9 := by unfold hasC; cases c.f9 <;> rfl
  show (⟨c.f0, c.f1, c.f2, c.f3, c.f4, c.f5, c.f6, c.f7, c.f8, hasC c == 1⟩ : Cmd) = c
  rw [h9]
theorem right_sound {c : Cmd} (h : rightCmd c = true) : soundC c = true ∧ (cmdB c).length ≤ 512 := by
  unfold rightCmd at h
  rw [Bool.and_eq_true, decide_eq_true_iff] at h
  exact h
theorem getOk_put {c : Cmd} (h : rightCmd c = true) : getOk (strOfNums (cmdB c)) = true ∧ (cutC (bytesOf (strOfNums (cmdB c)))).1 = c := by
  have h1 := cutC_cmdB (right_sound h).1 []
  rw [List.append_nil] at h1
  have h2 := bytesOf_strOf (bytes_cmdB c)
  unfold getOk
  rw [h2, h1]
  simp [h]
theorem getC_put {c : Cmd} (h : rightCmd c = true) : getC (strOfNums (cmdB c)) = tupCmd c 0 := by
  obtain ⟨h1, h2⟩ := getOk_put h
  unfold getC
  rw [if_pos h1, h2]
theorem putC_right {c : Cmd} (h : rightCmd c = true) : putC c = (strOfNums (cmdB c), 0) := by
  obtain ⟨h1, h2⟩ := right_sound h
  unfold putC
  rw [if_pos h1, if_pos h2]
theorem putC_ok {c : Cmd} (h : (putC c).2 = 0) : rightCmd c = true := by
  unfold putC at h
  unfold rightCmd
  split at h
  · rename_i h1
    split at h
    · rename_i h2
      rw [h1, decide_eq_true h2]
      rfl
    · cases h
  · cases h
theorem cmdB_inj {c d : Cmd} (h : rightCmd c = true) (h' : rightCmd d = true) (e : cmdB c = cmdB d) : c = d := by
  have h1 := cutC_cmdB (right_sound h).1 []
  have h2 := cutC_cmdB (right_sound h').1 []
  rw [e, h2] at h1
  exact (congrArg Prod.fst h1).symm
end Go.Proofs.Ytpneppnnhiijnaa.Pl

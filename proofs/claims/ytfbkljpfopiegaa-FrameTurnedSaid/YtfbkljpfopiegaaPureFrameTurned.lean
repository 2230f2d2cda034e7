/- The pure statement of the law FrameTurned. -/
import Derived.Test.YtfbkljpfopiegaaBFrame
import Derived.Test.YtfbkljpfopiegaaBRefFrame
import Derived.KernelRfl
import Derived.Test.YtfbkljpfopiegaaXx18
namespace Go.Proofs.Ytfbkljpfopiegaa.Pure
open Go.RowKit Go.Proofs.Ytfbkljpfopiegaa.X Go.Proofs.Ytfbkljpfopiegaa.Pl Go.Proofs.YtfbkljpfopiegaaW.PrintWords Go.Proofs.YtfbkljpfopiegaaW.PrintLast
theorem awake : Ev (fun k => shardloglaw06_awake.f k) true := Ev.of (fun k => shardloglaw06_awake.mono k) (k := 50) (by kernel_rfl)
theorem turned_true (l : List (List Int)) (a b : Int) : Ev (fun k => shardloglaw06_FrameTurned.j0 k l a b true) true :=
  Ev.step (f := fun k => (shardloglaw06_awake.f k).bind fun t => some t) (fun k => by simp only [shardloglaw06_FrameTurned.j0, if_true]) (Ev.bind awake (Ev.now _))
theorem turned_l0 {l : List (List Int)} (hb : ∀ r ∈ l, r.length ≤ 65535 ∧ Bytes r) (hl : l.length ≤ 100) (hfl : (frames l).length ≤ 100000) {kk : Nat} {y : Int} (hk : kk < (frames l).length) (hy : 0 ≤ y ∧ y < 256) (hne : (frames l)[kk]? ≠ some y) : ∀ (rest done : List (List Int)), l = done ++ rest → (frames done).length ≤ kk →
    Ev (fun k => shardloglaw06_FrameTurned.l0 k l ((frames l).set kk y) (kk : Int) (done.length : Int) ((frames done).length : Int)) true
  | [], done, e, h => by
    rw [List.append_nil] at e
    rw [e] at hk
    omega
  | r :: rest, done, e, h => by
    have hlt : done.length < l.length := by rw [e, List.length_append, List.length_cons]; omega
    have hget : l[done.length] = r := by simp [e]
    obtain ⟨hr1, hr2⟩ := hb r (by rw [e]; simp)
    have hf := frame_length hr1
    have hd1 : frames (done ++ [r]) = frames done ++ frame r := by rw [frames_append]; simp [frames]
    have hfs : frames l = frames done ++ (frame r ++ frames rest) := by rw [e, frames_append, frames_cons]
    have hrd : rd_L1 l (done.length : Int) = r := by rw [rd_L1_at _ _ hlt, hget]
    have hdl : (frames done).length ≤ 100000 := by rw [hfs, List.length_append] at hfl; omega
    have hw : wrap64 (wrap64 (((frames done).length : Int) + 12) + (r.length : Int)) = (((frames done).length + (12 + r.length) : Nat) : Int) := by
      rw [w64 (x := ((frames done).length : Int) + 12) (by omega) (by omega), w64 (by omega) (by omega)]; omega
    have hw1 : wrap64 ((done.length : Int) + 1) = ((done.length + 1 : Nat) : Int) := by rw [w64 (by omega) (by omega)]; omega
    by_cases hc : (frames done).length + (12 + r.length) ≤ kk
    · have hn := turned_l0 hb hl hfl hk hy hne rest (done ++ [r]) (by rw [e]; simp) (by rw [hd1, List.length_append, hf]; exact hc)
      rw [hd1, List.length_append, List.length_append, hf] at hn
      refine Ev.step (fun k => ?_) hn
      simp only [shardloglaw06_FrameTurned.l0]
      rw [if_pos (by omega), if_pos (by omega), hrd, hw, if_pos (by omega), hw1]
      rfl
    · have hset : (frames l).set kk y = frames done ++ ((frame r).set (kk - (frames done).length) y ++ frames rest) := by
        rw [hfs, List.set_append_right _ _ h, List.set_append_left _ _ (by omega)]
      have hne2 : (frame r)[kk - (frames done).length]? ≠ some y := by
        rw [hfs, List.getElem?_append_right h, List.getElem?_append_left (by omega)] at hne
        exact hne
      have hb2 : Bytes ((frame r).set (kk - (frames done).length) y ++ frames rest) := (bytes_set (bytes_frame hr2) hy _).append (bytes_frames (fun x hx => (hb x (by rw [e]; simp [hx])).2))
      have hno := okF_turn hr1 hr2 (j := kk - (frames done).length) (y := y) (by omega) hy hne2 (frames rest)
      have hlen : (frames done ++ ((frame r).set (kk - (frames done).length) y ++ frames rest)).length = (frames l).length := by rw [← hset, List.length_set]
      have hscan := frame_Scan_ev (l := done) (fun x hx => hb x (by rw [e]; simp [hx])) hb2 hno (by omega)
      rw [← hset] at hscan
      have htk : l.take ((done.length : Int)).toNat = done := by rw [Int.toNat_natCast, e]; exact List.take_left
      refine Ev.step (f := fun k => (frame_Scan.f k ((frames l).set kk y)).bind fun bt415 => (if (done.length : Int) ≤ (l.length : Int) then ((shardlogref06_Same.f k bt415.1 (l.take ((done.length : Int)).toNat)).bind fun t423 => (if t423 = true then (some (bt415.2 == ((frames done).length : Int))) else (none))) else (none))) (fun k => ?_) ?_
      · simp only [shardloglaw06_FrameTurned.l0]
        rw [if_pos (by omega), if_pos (by omega), hrd, hw, if_neg (by omega)]
      · refine Ev.bind hscan (Ev.pos (by omega) (Ev.bind (ref_Same_ev htk.symm (show done.length ≤ _ by omega)) (Ev.pos rfl ((Ev.now _).to (by simp)))))
theorem bits_xor8 {a b : Nat} (ha : a < 256) (hb : b < 256) : Go.bits .xor .u8 (a : Int) (b : Int) = ((a ^^^ b : Nat) : Int) :=
  bits_xor_nat .u8 8 (by decide) (fun n h0 h1 => by rw [IntKind.wrap_u8]; omega) a b ha hb
theorem xor_turns {x t : Int} (hx : 0 ≤ x ∧ x < 256) (ht : 0 ≤ t ∧ t < 256) (hn : t ≠ 0) : (0 ≤ Go.bits .xor .u8 x t ∧ Go.bits .xor .u8 x t < 256) ∧ Go.bits .xor .u8 x t ≠ x := by
  obtain ⟨a, rfl⟩ := Int.eq_ofNat_of_zero_le hx.1
  obtain ⟨b, rfl⟩ := Int.eq_ofNat_of_zero_le ht.1
  rw [bits_xor8 (by omega) (by omega)]
  have hlt : a ^^^ b < 256 := Nat.xor_lt_two_pow (n := 8) (by omega) (by omega)
  refine ⟨by omega, fun h => hn ?_⟩
  have h2 : a ^^^ b = a ^^^ 0 := by rw [Nat.xor_zero]; omega
  have := xor_cancel_left h2
  omega
theorem FrameTurned : shardloglaw06_FrameTurned.Pure := by
  intro l at_ turn h0 h1 h2
  obtain ⟨m1, m2, m3⟩ := h0
  obtain ⟨u0, u1⟩ := wf_u16 h1
  have ht := wf_u8 h2
  refine Ev.rounds ?_
  unfold shardloglaw06_FrameTurned.f
  refine Ev.bind awake (Ev.pos rfl ?_)
  obtain ⟨r, he, hr⟩ := few06 (fun s hs => by have := (m3 s hs).2.1; omega) (show l.length ≤ 140737488351232 by omega)
  refine Ev.bind he ?_
  cases r with
  | false => exact Ev.neg (by simp) (turned_true _ _ _)
  | true =>
    refine Ev.pos rfl ?_
    obtain ⟨hr1, hr2⟩ := hr rfl
    by_cases hl : (l.length : Int) = 0
    · exact Ev.pos hl (turned_true _ _ _)
    refine Ev.neg hl ?_
    by_cases ht0 : turn = 0
    · subst ht0
      exact turned_true _ _ _
    have hbeq : (turn == 0) = false := by simpa using ht0
    rw [hbeq]
    have hb : ∀ r ∈ l, r.length ≤ 65535 ∧ Bytes r := fun r hr => ⟨by have := length_le_totalB hr; omega, Bytes.of_wf (m3 r hr).2.2⟩
    have hfl := frames_length l (fun r hr => (hb r hr).1)
    have hpos : 0 < (frames l).length := by omega
    refine Ev.step (fun k => by simp only [shardloglaw06_FrameTurned.j0, Bool.false_eq_true, if_false]; rfl) ?_
    refine Ev.bind (frame_All_ev hb (by omega)) (Ev.neg (by omega) ?_)
    obtain ⟨a, rfl⟩ := Int.eq_ofNat_of_zero_le u0
    have hm : Int.tmod (wrap64 (a : Int)) ((frames l).length : Int) = ((a % (frames l).length : Nat) : Int) := by
      rw [w64 (by omega) (by omega), Int.tmod_eq_emod_of_nonneg (by omega)]; omega
    have hlt : a % (frames l).length < (frames l).length := Nat.mod_lt _ hpos
    rw [hm]
    refine Ev.pos (by omega) (Ev.pos (by omega) ?_)
    rw [Int.toNat_natCast]
    have hbs := bytes_frames (fun r hr => (hb r hr).2)
    have hget : rd (frames l) ((a % (frames l).length : Nat) : Int) = (frames l)[a % (frames l).length] := rd_at _ _ hlt
    rw [hget]
    obtain ⟨x1, x2⟩ := xor_turns (hbs _ (List.getElem_mem hlt)) ht ht0
    exact turned_l0 hb hr1 (by omega) hlt x1 (by rw [List.getElem?_eq_getElem hlt]; intro e; exact x2 (Option.some.inj e).symm) l [] rfl (by simp [frames])
end Go.Proofs.Ytfbkljpfopiegaa.Pure

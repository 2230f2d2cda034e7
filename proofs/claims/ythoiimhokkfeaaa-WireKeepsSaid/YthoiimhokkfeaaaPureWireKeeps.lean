/- The pure statement of the law WireKeeps: what is handed in stays as it was, whatever is written into what is cut off. -/
import Derived.Test.YthoiimhokkfeaaaBWire
import Derived.Test.YthoiimhokkfeaaaBRefNum
import Derived.KernelRfl
import Derived.Test.YthoiimhokkfeaaaXx22
namespace Go.Proofs.Ythoiimhokkfeaaa.Pure
open Go.RowKit Go.Proofs.Ythoiimhokkfeaaa.X Go.Proofs.Ythoiimhokkfeaaa.Pl Go.Proofs.YthoiimhokkfeaaaW.PrintWords Go.Proofs.YthoiimhokkfeaaaW.PrintLast
theorem awake : Ev (fun k => shardloglaw01_awake.f k) true := Ev.of (fun k => shardloglaw01_awake.mono k) (k := 50) (by kernel_rfl)
theorem keeps_true (l0 : List Int) : Ev (fun k => shardloglaw01_WireKeeps.j0 k l0 true) true :=
  Ev.step (f := fun k => (shardloglaw01_awake.f k).bind fun t => some t) (fun k => by simp only [shardloglaw01_WireKeeps.j0, if_true]) (Ev.bind awake (Ev.now _))
theorem keeps_l1 (b : List Int) (d : Nat) : ∀ (x : List Int) (i : Nat), x.length ≤ 140737488355328 → i ≤ x.length → x.length - i = d → Ev (fun k => shardloglaw01_WireKeeps.l1 k b b x (i : Int)) true := by
  induction d with
  | zero =>
    intro x i hx hi hd
    refine Ev.step (f := fun _ => (shardlogref01_Same.f b b).bind fun t => some t) (fun k => ?_) (Ev.bind (Ev.eq (Same_eq rfl)) (Ev.now _))
    simp only [shardloglaw01_WireKeeps.l1]
    rw [if_neg (by omega)]
  | succ d ih =>
    intro x i hx hi hd
    refine Ev.step (f := fun k => shardloglaw01_WireKeeps.l1 k b b (x.set i (Go.bits .xor .u8 (rd x (i : Int)) 255)) ((i + 1 : Nat) : Int)) (fun k => ?_) (ih _ (i + 1) (by simpa using hx) (by simp; omega) (by simp; omega))
    simp only [shardloglaw01_WireKeeps.l1]
    rw [if_pos (by omega), if_pos (by omega), w64 (by omega) (by omega), Int.toNat_natCast]
    rfl
theorem keeps_l0 {b : List Int} (hb : Bytes b) (hl : b.length ≤ 1000) (d : Nat) : ∀ (x : List Int) (i : Nat), x.length ≤ 140737488355328 → i ≤ x.length → x.length - i = d → Ev (fun k => shardloglaw01_WireKeeps.l0 k b b x (i : Int)) true := by
  induction d with
  | zero =>
    intro x i hx hi hd
    refine Ev.step (f := fun k => (wire_CutText.f k b).bind fun bt => shardloglaw01_WireKeeps.l1 k b b bt.2.1 0) (fun k => ?_) (Ev.bind (wire_CutText_ev hb (by omega)) ?_)
    · simp only [shardloglaw01_WireKeeps.l0]
      rw [if_neg (by omega)]
    · have h := cutText_rest_le (b := b)
      exact keeps_l1 b _ (cutText b).2.1 0 (by omega) (by omega) rfl
  | succ d ih =>
    intro x i hx hi hd
    refine Ev.step (f := fun k => shardloglaw01_WireKeeps.l0 k b b (x.set i (Go.bits .xor .u8 (rd x (i : Int)) 255)) ((i + 1 : Nat) : Int)) (fun k => ?_) (ih _ (i + 1) (by simpa using hx) (by simp; omega) (by simp; omega))
    simp only [shardloglaw01_WireKeeps.l0]
    rw [if_pos (by omega), if_pos (by omega), w64 (by omega) (by omega), Int.toNat_natCast]
    rfl
theorem WireKeeps : shardloglaw01_WireKeeps.Pure := by
  intro b h0
  obtain ⟨m1, m2, m3⟩ := h0
  have hb := Bytes.of_wf m3
  refine Ev.rounds ?_
  unfold shardloglaw01_WireKeeps.f
  refine Ev.bind awake (Ev.pos rfl ?_)
  by_cases hs : (b.length : Int) > 1000
  · rw [decide_eq_true hs]
    exact keeps_true _
  · rw [decide_eq_false hs]
    refine Ev.step (fun k => by simp only [shardloglaw01_WireKeeps.j0, Bool.false_eq_true, if_false]; rfl) ?_
    refine Ev.bind (Ev.now _) (Ev.pos (by simp only [List.length_nil]; omega) (Ev.bind (wire_CutNum_ev hb (by omega)) ?_))
    have hc : (cutNum b).2.1.length ≤ b.length := by
      unfold cutNum
      split
      · simp
      · simp only [List.length_drop]; omega
    rw [List.nil_append]
    exact keeps_l0 hb (by omega) _ (cutNum b).2.1 0 (by omega) (by omega) rfl
end Go.Proofs.Ythoiimhokkfeaaa.Pure

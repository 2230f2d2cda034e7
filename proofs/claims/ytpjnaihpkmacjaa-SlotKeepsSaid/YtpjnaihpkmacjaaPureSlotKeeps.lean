/- The pure statement of the law SlotKeeps. -/
import Derived.Test.YtpjnaihpkmacjaaBSlot
import Derived.Test.YtpjnaihpkmacjaaBRefNum
import Derived.Test.YtpjnaihpkmacjaaBRefSlot
import Derived.KernelRfl
import Derived.Test.YtpjnaihpkmacjaaXx18
namespace Go.Proofs.Ytpjnaihpkmacjaa.Pure
open Go.RowKit Go.Proofs.Ytpjnaihpkmacjaa.X Go.Proofs.Ytpjnaihpkmacjaa.Pl Go.Proofs.YtpjnaihpkmacjaaW.PrintWords Go.Proofs.YtpjnaihpkmacjaaW.PrintLast
theorem awake : Ev (fun k => shardloglaw17_awake.f k) true := Ev.of (fun k => shardloglaw17_awake.mono k) (k := 50) (by kernel_rfl)
theorem keeps_true (s b v : Int) (f : Bool) (t : ByteArray) : Ev (fun k => shardloglaw17_SlotKeeps.j0 k true s b v f t) true :=
  Ev.step (f := fun k => (shardloglaw17_awake.f k).bind fun t => some t) (fun k => by simp only [shardloglaw17_SlotKeeps.j0, if_true]) (Ev.bind awake (Ev.now _))
theorem keeps_l0 {s b v : Int} {f : Bool} {t : ByteArray} (h : right s b v t = true) (d : Nat) : ∀ (x : List Int) (i : Nat), x.length ≤ 140737488355328 → i ≤ x.length → x.length - i = d → Ev (fun k => shardloglaw17_SlotKeeps.l0 k x (vote s b v f t) true (i : Int) s b v f t) true := by
  induction d with
  | zero =>
    intro x i hx hi hd
    refine Ev.step (f := fun _ => (slot_Put.f s b v f t).bind fun bt => (if bt.2 = 0 then ((shardlogref01_Same.f bt.1 (vote s b v f t)).bind fun t408 => (some t408)) else none)) (fun k => ?_) ?_
    · simp only [shardloglaw17_SlotKeeps.l0]
      rw [if_neg (by omega)]
      simp only [if_true]
    · refine Ev.bind (Ev.eq (slot_Put_eq _ _ _ _ _)) ?_
      simp only [if_pos h]
      exact Ev.pos (by trivial) (Ev.bind (Ev.eq (Same_eq rfl)) (Ev.now _))
  | succ d ih =>
    intro x i hx hi hd
    refine Ev.step (f := fun k => shardloglaw17_SlotKeeps.l0 k (x.set i (Go.bits .xor .u8 (rd x (i : Int)) 255)) (vote s b v f t) true ((i + 1 : Nat) : Int) s b v f t) (fun k => ?_) (ih _ (i + 1) (by simpa using hx) (by simp; omega) (by simp; omega))
    simp only [shardloglaw17_SlotKeeps.l0]
    rw [if_pos (by omega), if_pos (by omega), w64 (by omega) (by omega), Int.toNat_natCast]
    rfl
theorem SlotKeeps : shardloglaw17_SlotKeeps.Pure := by
  intro s b v f t h1 h2 h3 h4
  refine Ev.rounds ?_
  unfold shardloglaw17_SlotKeeps.f
  refine Ev.bind awake (Ev.pos rfl (Ev.bind (Ev.eq (ref_Right_eq _ _ _ _ _)) ?_))
  by_cases h : right s b v t = true
  · simp only [h, Bool.not_true]
    have h6 := (right_iff.1 h).2.2.2.2.2
    have hv := vote_length s b v f t
    refine Ev.step (fun k => by simp only [shardloglaw17_SlotKeeps.j0, Bool.false_eq_true, if_false]; rfl) (Ev.bind (Ev.eq (slot_Put_eq _ _ _ _ _)) ?_)
    simp only [if_pos h]
    refine Ev.bind (Ev.now _) (Ev.pos (by simp only [List.length_nil]; omega) (Ev.bind (Ev.now _) (Ev.bind (slot_Get_ev (bytes_vote s b v f t) (by omega)) (Ev.bind (Ev.eq (Same_eq (by rfl))) (Ev.pos rfl ?_)))))
    have hg' : slotGet (vote s b v f t) = gotV (s, b, v, f, t) 0 := slotGet_vote (u := (s, b, v, f, t)) h
    rw [hg']
    simp only [gotV, beq_self_eq_true, Bool.and_self, List.nil_append]
    refine Ev.step (fun k => by simp only [shardloglaw17_SlotKeeps.j1]; rfl) ?_
    exact keeps_l0 h _ (vote s b v f t) 0 (by omega) (by omega) rfl
  · have : right s b v t = false := by simpa using h
    simp only [this, Bool.not_false]
    exact keeps_true _ _ _ _ _
end Go.Proofs.Ytpjnaihpkmacjaa.Pure

/- The pure statement of the law CellKeeps. -/
import Derived.Test.YtpnbknhjnakehaaBCell
import Derived.Test.YtpnbknhjnakehaaBRefCellOrder
import Derived.Test.YtpnbknhjnakehaaBRefNum
import Derived.KernelRfl
import Derived.Test.YtpnbknhjnakehaaXx32
namespace Go.Proofs.Ytpnbknhjnakehaa.Pure
open Go.RowKit Go.Proofs.Ytpnbknhjnakehaa.X Go.Proofs.Ytpnbknhjnakehaa.Pl Go.Proofs.YtpnbknhjnakehaaW.PrintWords Go.Proofs.YtpnbknhjnakehaaW.PrintLast
theorem awake : Ev (fun k => shardloglaw08_awake.f k) true := Ev.of (fun k => shardloglaw08_awake.mono k) (k := 50) (by kernel_rfl)
theorem keeps_true (r c : ByteArray) (t : Int) (v : ByteArray) (g : Bool) : Ev (fun k => shardloglaw08_CellKeeps.j0 k true r c t v g) true :=
  Ev.step (f := fun k => (shardloglaw08_awake.f k).bind fun t => some t) (fun k => by simp only [shardloglaw08_CellKeeps.j0, if_true]) (Ev.bind awake (Ev.now _))
theorem keeps_l0 (b : List Int) (d : Nat) : ∀ (x : List Int) (i : Nat), x.length ≤ 140737488355328 → i ≤ x.length → x.length - i = d → Ev (fun k => shardloglaw08_CellKeeps.l0 k b b x (i : Int)) true := by
  induction d with
  | zero =>
    intro x i hx hi hd
    refine Ev.step (f := fun _ => (shardlogref01_Same.f b b).bind fun t => some t) (fun k => ?_) (Ev.bind (Ev.eq (Same_eq rfl)) (Ev.now _))
    simp only [shardloglaw08_CellKeeps.l0]
    rw [if_neg (by omega)]
  | succ d ih =>
    intro x i hx hi hd
    refine Ev.step (f := fun k => shardloglaw08_CellKeeps.l0 k b b (x.set i 99) ((i + 1 : Nat) : Int)) (fun k => ?_) (ih _ (i + 1) (by simpa using hx) (by simp; omega) (by simp; omega))
    simp only [shardloglaw08_CellKeeps.l0]
    rw [if_pos (by omega), if_pos (by omega), w64 (by omega) (by omega), Int.toNat_natCast]
    rfl
theorem CellKeeps : shardloglaw08_CellKeeps.Pure := by
  intro r c t v g h1 h2 h3 h4
  refine Ev.rounds ?_
  unfold shardloglaw08_CellKeeps.f
  refine Ev.bind awake (Ev.pos rfl (Ev.bind (Ev.eq (ref_CRight_eq _ _ _ _ _)) ?_))
  by_cases h : cellRight r c t v g = true
  · obtain ⟨_, z1, _, z2, _, _, z3, _⟩ := cellRight_iff.1 h
    have hl := cellB_length r c t v g
    rw [h]
    refine Ev.step (fun k => by simp only [shardloglaw08_CellKeeps.j0, Bool.not_true, Bool.false_eq_true, if_false]; rfl) ?_
    refine Ev.bind (Ev.eq (cell_Put_eq t g (by omega) (by omega) (by omega))) (Ev.bind (Ev.now _) (Ev.pos (by simp only [List.length_cons, List.length_nil]; omega) (Ev.bind (Ev.now _) (Ev.bind (Ev.now _) (Ev.pos (by simp only [List.length_append, List.length_cons, List.length_nil]; omega) ?_)))))
    have hb : Bytes (cellB r c t v g ++ [1, 2]) := (bytes_cellB r c t v g).append (Bytes.cons (by omega) (by omega) (Bytes.cons (by omega) (by omega) Bytes.nil))
    refine Ev.bind (cell_Cut_ev hb (by simp only [List.length_append, List.length_cons, List.length_nil]; omega)) ?_
    rw [cutCell_cellB h, List.nil_append]
    exact keeps_l0 _ _ [1, 2] 0 (by simp) (by simp) rfl
  · have : cellRight r c t v g = false := by simpa using h
    rw [this]
    exact keeps_true _ _ _ _ _
end Go.Proofs.Ytpnbknhjnakehaa.Pure

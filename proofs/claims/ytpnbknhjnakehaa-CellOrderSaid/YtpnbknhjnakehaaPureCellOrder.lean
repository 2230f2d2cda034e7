/- The pure statement of the law CellOrder. -/
import Derived.Test.YtpnbknhjnakehaaBCellOrder
import Derived.KernelRfl
import Derived.Test.YtpnbknhjnakehaaXx20
namespace Go.Proofs.Ytpnbknhjnakehaa.Pure
open Go.RowKit Go.Proofs.Ytpnbknhjnakehaa.X Go.Proofs.Ytpnbknhjnakehaa.Pl Go.Proofs.YtpnbknhjnakehaaW.PrintWords Go.Proofs.YtpnbknhjnakehaaW.PrintLast
theorem awake : Ev (fun k => shardloglaw08_awake.f k) true := Ev.of (fun k => shardloglaw08_awake.mono k) (k := 50) (by kernel_rfl)
theorem small_eq (r c : ByteArray) (t : Int) (v : ByteArray) (g : Bool) : shardloglaw08_small.f r c t v g = some (decide ((r.size : Int) ≤ 300 ∧ (c.size : Int) ≤ 300 ∧ (v.size : Int) ≤ 600)) := by
  unfold shardloglaw08_small.f
  by_cases h1 : (r.size : Int) ≤ 300
  · by_cases h2 : (c.size : Int) ≤ 300
    · rw [if_pos h1, if_pos h2]
      simp [h1, h2]
    · rw [if_pos h1, if_neg h2]
      simp [h2]
  · rw [if_neg h1]
    simp [h1]
theorem order_true (a0 a1 : ByteArray) (a2 : Int) (a3 : ByteArray) (a4 : Bool) (b0 b1 : ByteArray) (b2 : Int) (b3 : ByteArray) (b4 : Bool) (c0 c1 : ByteArray) (c2 : Int) (c3 : ByteArray) (c4 : Bool) : Ev (fun k => shardloglaw08_CellOrder.j0 k true a0 a1 a2 a3 a4 b0 b1 b2 b3 b4 c0 c1 c2 c3 c4) true :=
  Ev.step (f := fun k => (shardloglaw08_awake.f k).bind fun t => some t) (fun k => by simp only [shardloglaw08_CellOrder.j0, if_true]) (Ev.bind awake (Ev.now _))
theorem order_j1 (a0 a1 : ByteArray) (a2 : Int) (a3 : ByteArray) (a4 : Bool) (b0 b1 : ByteArray) (b2 : Int) (c0 c1 : ByteArray) (c2 : Int) (c3 : ByteArray) (c4 : Bool) : Ev (fun k => shardloglaw08_CellOrder.j1 k (cmpC a0 a1 a2 b0 b1 b2) (cmpC b0 b1 b2 c0 c1 c2) false a0 a1 a2 a3 a4 c0 c1 c2 c3 c4) true := by
  refine Ev.step (fun k => by simp only [shardloglaw08_CellOrder.j1, Bool.false_eq_true, if_false]; rfl) ?_
  by_cases h1 : cmpC a0 a1 a2 b0 b1 b2 ≤ 0
  · refine Ev.pos h1 ?_
    by_cases h2 : cmpC b0 b1 b2 c0 c1 c2 ≤ 0
    · have i1 := cmpC_in a0 a1 a2 b0 b1 b2
      have i2 := cmpC_in b0 b1 b2 c0 c1 c2
      have key : (cmpC a0 a1 a2 c0 c1 c2 = -1) ∨ (cmpC a0 a1 a2 b0 b1 b2 = 0 ∧ cmpC b0 b1 b2 c0 c1 c2 = 0 ∧ cmpC a0 a1 a2 c0 c1 c2 = 0) := by
        by_cases z1 : cmpC a0 a1 a2 b0 b1 b2 = 0
        · obtain ⟨rfl, rfl, rfl⟩ := cmpC_zero.1 z1
          by_cases z2 : cmpC a0 a1 a2 c0 c1 c2 = 0
          · exact .inr ⟨z1, z2, z2⟩
          · exact .inl (by omega)
        · by_cases z2 : cmpC b0 b1 b2 c0 c1 c2 = 0
          · obtain ⟨rfl, rfl, rfl⟩ := cmpC_zero.1 z2
            exact .inl (by omega)
          · have h3 : cmpC a0 a1 a2 b0 b1 b2 = -1 := by omega
            have h4 : cmpC b0 b1 b2 c0 c1 c2 = -1 := by omega
            exact .inl (cmpC_trans h3 h4)
      refine Ev.pos h2 (Ev.bind (cell_Compare_ev _ _ _ _ _ _ _ _ _ _) (Ev.pos (by rcases key with k | k <;> omega) (Ev.bind (cell_Compare_ev _ _ _ _ _ _ _ _ _ _) ?_)))
      rcases key with k | ⟨k1, k2, k3⟩
      · exact Ev.pos (by omega) (Ev.now _)
      · exact Ev.neg (by omega) (Ev.pos k1 ((Ev.now _).to (by simp [k2])))
    · exact Ev.neg h2 (Ev.now _)
  · exact Ev.neg h1 (Ev.now _)
theorem CellOrder : shardloglaw08_CellOrder.Pure := by
  intro a0 a1 a2 a3 a4 b0 b1 b2 b3 b4 c0 c1 c2 c3 c4 _ _ _ _ _ _ _ _ _ _ _ _
  refine Ev.rounds ?_
  unfold shardloglaw08_CellOrder.f
  refine Ev.bind awake (Ev.pos rfl (Ev.bind (Ev.eq (small_eq _ _ _ _ _)) ?_))
  by_cases s1 : decide ((a0.size : Int) ≤ 300 ∧ (a1.size : Int) ≤ 300 ∧ (a3.size : Int) ≤ 600) = true
  · refine Ev.pos s1 (Ev.bind (Ev.eq (small_eq _ _ _ _ _)) ?_)
    by_cases s2 : decide ((b0.size : Int) ≤ 300 ∧ (b1.size : Int) ≤ 300 ∧ (b3.size : Int) ≤ 600) = true
    · refine Ev.pos s2 (Ev.bind (Ev.eq (small_eq _ _ _ _ _)) ?_)
      by_cases s3 : decide ((c0.size : Int) ≤ 300 ∧ (c1.size : Int) ≤ 300 ∧ (c3.size : Int) ≤ 600) = true
      · rw [s3]
        refine Ev.step (fun k => by simp only [shardloglaw08_CellOrder.j0, Bool.not_true, Bool.false_eq_true, if_false]; rfl) ?_
        refine Ev.bind (cell_Compare_ev _ _ _ _ _ _ _ _ _ _) (Ev.bind (cell_Compare_ev _ _ _ _ _ _ _ _ _ _) (Ev.bind (cell_Compare_ev _ _ _ _ _ _ _ _ _ _) ?_))
        have hneg := cmpC_neg a0 a1 a2 b0 b1 b2
        have hin := cmpC_in a0 a1 a2 b0 b1 b2
        have hz := cmpC_zero (r := a0) (c := a1) (t := a2) (r' := b0) (c' := b1) (t' := b2)
        have hj := order_j1 a0 a1 a2 a3 a4 b0 b1 b2 c0 c1 c2 c3 c4
        refine Ev.pos (by rw [hneg, w64 (by omega) (by omega)]; omega) ?_
        by_cases e1 : a0.toList = b0.toList
        · refine Ev.pos e1 ?_
          by_cases e2 : a1.toList = b1.toList
          · refine Ev.pos e2 ?_
            have : ((cmpC a0 a1 a2 b0 b1 b2 == 0) != (a2 == b2)) = false := by
              have h3 : (cmpC a0 a1 a2 b0 b1 b2 == 0) = (a2 == b2) := by
                rw [Bool.eq_iff_iff, beq_iff_eq, beq_iff_eq, hz]
                exact ⟨fun h => h.2.2, fun h => ⟨toList_inj e1, toList_inj e2, h⟩⟩
              rw [h3]; simp
            rw [this]
            exact hj
          · refine Ev.neg e2 ?_
            have : ((cmpC a0 a1 a2 b0 b1 b2 == 0) != false) = false := by
              have h3 : ¬ cmpC a0 a1 a2 b0 b1 b2 = 0 := fun h => e2 (by rw [(hz.1 h).2.1])
              simpa using h3
            rw [this]
            exact hj
        · refine Ev.neg e1 ?_
          have : ((cmpC a0 a1 a2 b0 b1 b2 == 0) != false) = false := by
            have h3 : ¬ cmpC a0 a1 a2 b0 b1 b2 = 0 := fun h => e1 (by rw [(hz.1 h).1])
            simpa using h3
          rw [this]
          exact hj
      · have s4 : decide ((c0.size : Int) ≤ 300 ∧ (c1.size : Int) ≤ 300 ∧ (c3.size : Int) ≤ 600) = false := by simpa using s3
        rw [s4]
        exact order_true _ _ _ _ _ _ _ _ _ _ _ _ _ _ _
    · exact Ev.neg s2 (order_true _ _ _ _ _ _ _ _ _ _ _ _ _ _ _)
  · exact Ev.neg s1 (order_true _ _ _ _ _ _ _ _ _ _ _ _ _ _ _)
end Go.Proofs.Ytpnbknhjnakehaa.Pure

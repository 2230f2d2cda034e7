/- The pure statement of the law TableTurned. -/
import Derived.Test.YtinhpolmanccgaaBAll
import Derived.KernelRfl
import Derived.Test.YtinhpolmanccgaaXx13
namespace Go.Proofs.Ytinhpolmanccgaa.Pure
open Go.RowKit Go.Proofs.Ytinhpolmanccgaa.X Go.Proofs.Ytinhpolmanccgaa.Pl Go.Proofs.YtinhpolmanccgaaW.PrintWords Go.Proofs.YtinhpolmanccgaaW.PrintLast
theorem awake : Ev (fun k => shardloglaw12_awake.f k) true := Ev.of (fun k => shardloglaw12_awake.mono k) (k := 200) (by kernel_rfl)
theorem bits_xor8 {a b : Nat} (ha : a < 256) (hb : b < 256) : Go.bits .xor .u8 (a : Int) (b : Int) = ((a ^^^ b : Nat) : Int) :=
 bits_xor_nat .u8 8 (by decide) (fun n h0 h1 => by rw [IntKind.wrap_u8]; omega) a b ha hb
theorem xor_turns {x t : Int} (hx : 0 ≤ x ∧ x < 256) (ht : 0 ≤ t ∧ t < 256) (hn : t ≠ 0) : (0 ≤ Go.bits .xor .u8 x t ∧ Go.bits .xor .u8 x t < 256) ∧ Go.bits .xor .u8 x t ≠ x := by
 obtain ⟨a, rfl⟩ := Int.eq_ofNat_of_zero_le hx.1
 obtain ⟨b, rfl⟩ := Int.eq_ofNat_of_zero_le ht.1
 rw [bits_xor8 (by omega) (by omega)]
 have hlt : a ^^^ b < 256 := Nat.xor_lt_two_pow (n := 8) (by omega) (by omega)
 refine ⟨by omega, fun h => hn ?_⟩
 have h2 : a ^^^ b = a ^^^ 0 := by rw [Nat.xor_zero]; omega
 have := xor_cancel_left h2
 omega
theorem TableTurned : shardloglaw12_TableTurned.Pure := by
 intro l a1 a2 a3 _ ha hb hc
 obtain ⟨v0, v1⟩ := wf_u8 ha
 obtain ⟨u0, u1⟩ := wf_u16 hb
 have ht := wf_u8 hc
 refine Ev.rounds ?_
 unfold shardloglaw12_TableTurned.f
 refine Ev.bind awake (Ev.pos rfl (Ev.bind ref_Few_ev ?_))
 cases h : fewC l with
 | false => exact Ev.neg Bool.false_ne_true (Ev.now _)
 | true =>
  refine Ev.pos rfl ?_
  by_cases ht0 : a3 = 0
  ·
   exact Ev.pos ht0 (Ev.now _)
  refine Ev.neg ht0 ?_
  obtain ⟨hn, hr⟩ := fewC_iff.1 h
  have hs := sortC_srt hr
  have hln := sortC_length l
  unfold shardloglaw12_TableTurned.main
  obtain ⟨S, hS⟩ : ∃ S, sortC l = S := ⟨_, rfl⟩
  have hsort := ref_Sort_ev (l := l) (fun x hx => sized_of_right (hr x hx)) (by omega)
  rw [hS] at hs hln hsort
  obtain ⟨z, hzd⟩ : ∃ z, z = 1 + a1 := ⟨_, rfl⟩
  have hz1 : 1 ≤ z := by omega
  have hz0 : 0 < z.toNat := by omega
  have hz : wrap64 (1 + wrap64 a1) = z := by rw [w64 (x := a1) (by omega) (by omega), w64 (by omega) (by omega), hzd]
  rw [hz]
  clear hz hzd
  have hbd := table_Build_ev (l := S) z (by omega)
  unfold buildT at hbd
  rw [if_pos ⟨sortedC_iff.2 hs, hz1⟩] at hbd
  have hg := goB_length z.toNat S [] 0
  have hok := goB_blk hs (by omega) hz0
  have hfl : (goB z.toNat S [] 0).flatten = S := by rw [goB_flat, List.nil_append]
  have hT := fun j y h1 h2 h3 => open_turned (bs := goB z.toNat S [] 0) (j := j) (y := y) hok (by omega) (by rw [hfl]; omega) h1 h2 h3
  have hC := fun j h1 => open_cut_off (bs := goB z.toNat S [] 0) (j := j) hok (by omega) (by rw [hfl]; omega) h1
  have hL := (tableB_length (bs := goB z.toNat S [] 0) (fl := filterB S) hok (by omega) (by rw [filterB_length]; omega))
  rw [hfl] at hT hC
  have hby := bytes_tableB (goB z.toNat S [] 0) (filterB S)
  refine Ev.bind hsort (Ev.bind hbd (Ev.pos rfl ?_))
  generalize tableB (goB z.toNat S [] 0) (filterB S) = b at hT hC hL hby ⊢
  have hpos : 0 < b.length := by omega
  obtain ⟨a, rfl⟩ := Int.eq_ofNat_of_zero_le u0
  have hlt : a % b.length < b.length := Nat.mod_lt _ hpos
  have q0 : ¬ (b.length : Int) = 0 := fun h => Nat.ne_of_gt hpos (Int.ofNat_inj.1 h)
  have q1 : (0 : Int) ≤ ((a % b.length : Nat) : Int) ∧ ((a % b.length : Nat) : Int) < (b.length : Int) := ⟨Int.natCast_nonneg _, Int.ofNat_lt.2 hlt⟩
  have hm : Int.tmod (wrap64 (a : Int)) (b.length : Int) = ((a % b.length : Nat) : Int) := by
   rw [w64 (by omega) (by omega), Int.tmod_eq_emod_of_nonneg (by omega)]; omega
  have hget : rd b ((a % b.length : Nat) : Int) = b[a % b.length] := rd_at _ _ hlt
  obtain ⟨x1, x2⟩ := xor_turns (hby _ (List.getElem_mem hlt)) ht ht0
  have hne : b[a % b.length]? ≠ some (Go.bits .xor .u8 b[a % b.length] a3) := by
   rw [List.getElem?_eq_getElem hlt]; intro e; exact x2 (Option.some.inj e).symm
  have hO1 := hC _ hlt
  have hO2 := hT _ _ hlt x1 hne
  show Ev (fun k => if (b.length : Int) = 0 then none else if 0 ≤ Int.tmod (wrap64 (a : Int)) b.length ∧ Int.tmod (wrap64 (a : Int)) b.length < (b.length : Int) then shardloglaw12_TableTurned.tail k b (Int.tmod (wrap64 (a : Int)) b.length) a3 else none) true
  rw [hm]
  refine Ev.neg q0 (Ev.pos q1 ?_)
  unfold shardloglaw12_TableTurned.tail
  rw [Int.toNat_natCast, hget]
  exact Ev.bind hO1 (Ev.bind hO2 (Ev.pos ⟨rfl, rfl⟩ (Ev.now _)))
end Go.Proofs.Ytinhpolmanccgaa.Pure

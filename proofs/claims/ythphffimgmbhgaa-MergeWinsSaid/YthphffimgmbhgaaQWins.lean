/- The cells of the first list that has their key, counted. -/
import Derived.Test.YthphffimgmbhgaaBRefMerge
import Derived.Test.YthphffimgmbhgaaQMerge
namespace Go.Proofs.Ythphffimgmbhgaa.Pl
open Go.RowKit Go.Proofs.Ythphffimgmbhgaa.X Go.Proofs.YthphffimgmbhgaaW.PrintWords Go.Proofs.YthphffimgmbhgaaW.PrintLast Go.Proofs.YthphffimgmbhgaaW.PrintMore
def noneC (S : List (List Cell)) (c : Cell) : Nat → Nat → Bool
 | 0, _ => true
 | n + 1, a => (nthC S a).all (fun d => cc d c != 0) && noneC S c n (a + 1)
theorem noneC_iff (S : List (List Cell)) (c : Cell) : ∀ (n a : Nat), noneC S c n a = true ↔ ∀ j, a ≤ j → j < a + n → ∀ d ∈ nthC S j, cc d c ≠ 0
 | 0, a => ⟨fun _ j h1 h2 => by omega, fun _ => rfl⟩
 | n + 1, a => by
  unfold noneC
  rw [Bool.and_eq_true, noneC_iff S c n (a + 1), List.all_eq_true]
  constructor
  ·
   rintro ⟨h1, h2⟩ j hj1 hj2 d hd
   by_cases hja : j = a
   ·
    subst hja
    simpa using h1 d hd
   ·
    exact h2 j (by omega) (by omega) d hd
  ·
   intro h
   exact ⟨fun d hd => by simpa using h a (Nat.le_refl _) (by omega) d hd, fun j h1 h2 => h j (by omega) (by omega)⟩
def winsC (S : List (List Cell)) (i : Nat) : List Cell := (nthC S i).filter (fun c => noneC S c i 0)
def remW (S : List (List Cell)) : Nat → Nat → List Cell
 | 0, _ => []
 | n + 1, i => winsC S i ++ remW S n (i + 1)
theorem mem_winsC {S : List (List Cell)} {i : Nat} {c : Cell} : c ∈ winsC S i ↔ c ∈ nthC S i ∧ ∀ j, j < i → ∀ d ∈ nthC S j, cc d c ≠ 0 := by
 unfold winsC
 rw [List.mem_filter, noneC_iff]
 constructor
 ·
  rintro ⟨h1, h2⟩
  exact ⟨h1, fun j hj => h2 j (Nat.zero_le _) (by omega)⟩
 ·
  rintro ⟨h1, h2⟩
  exact ⟨h1, fun j _ hj => h2 j (by omega)⟩
theorem mem_remW {S : List (List Cell)} {c : Cell} : ∀ {n i : Nat}, c ∈ remW S n i ↔ ∃ j, i ≤ j ∧ j < i + n ∧ c ∈ winsC S j
 | 0, i => ⟨fun h => (by cases h), fun ⟨j, h1, h2, _⟩ => by omega⟩
 | n + 1, i => by
  unfold remW
  rw [List.mem_append, mem_remW]
  constructor
  ·
   rintro (h | ⟨j, h1, h2, h3⟩)
   ·
    exact ⟨i, Nat.le_refl _, by omega, h⟩
   ·
    exact ⟨j, by omega, by omega, h3⟩
  ·
   rintro ⟨j, h1, h2, h3⟩
   by_cases hj : j = i
   ·
    subst hj
    exact .inl h3
   ·
    exact .inr ⟨j, by omega, by omega, h3⟩
theorem ord_nodup {l : List Cell} (h : OrdC l) : l.Nodup := by
 refine List.Pairwise.imp (fun {a b} hab => ?_) h
 rintro rfl
 have := cc_self a
 omega
theorem remW_nodup {S : List (List Cell)} (hS : OrdsC S) : ∀ n i : Nat, (remW S n i).Nodup
 | 0, _ => List.nodup_nil
 | n + 1, i => by
  unfold remW
  refine List.nodup_append.2 ⟨(ord_nodup (hS i)).filter _, remW_nodup hS n (i + 1), fun a ha b hb => ?_⟩
  rintro rfl
  obtain ⟨j, h1, h2, h3⟩ := mem_remW.1 hb
  exact (mem_winsC.1 h3).2 i (by omega) a (mem_winsC.1 ha).1 (cc_self a)
theorem remW_len {S : List (List Cell)} {m : List Cell} (hS : OrdsC S) (h : MergedC S m) : (remW S S.length 0).length = m.length := by
 refine List.Perm.length_eq ((List.perm_ext_iff_of_nodup (remW_nodup hS _ _) (ord_nodup h.ord)).2 fun c => ?_)
 rw [mem_remW, merged_mem hS h]
 constructor
 ·
  rintro ⟨j, _, h2, h3⟩
  exact ⟨j, by omega, (mem_winsC.1 h3).1, (mem_winsC.1 h3).2⟩
 ·
  rintro ⟨j, h1, h2, h3⟩
  exact ⟨j, Nat.zero_le _, by omega, mem_winsC.2 ⟨h2, h3⟩⟩
end Go.Proofs.Ythphffimgmbhgaa.Pl

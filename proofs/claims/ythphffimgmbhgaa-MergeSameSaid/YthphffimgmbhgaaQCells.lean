/- Plain laws of lists of cells: put in order, sorted. -/
import Derived.Test.YthphffimgmbhgaaBCellOrder
namespace Go.Proofs.Ythphffimgmbhgaa.Pl
open Go.RowKit Go.Proofs.Ythphffimgmbhgaa.X Go.Proofs.YthphffimgmbhgaaW.PrintWords Go.Proofs.YthphffimgmbhgaaW.PrintLast Go.Proofs.YthphffimgmbhgaaW.PrintMore
abbrev Cell := S35
abbrev rdC (xs : List Cell) (i : Int) : Cell := rd_T35 xs i
theorem rdC_at (l : List Cell) (i : Nat) (h : i < l.length) : rdC l (i : Int) = l[i] := by
 show l.getD (i : Int).toNat _ = _
 rw [Int.toNat_natCast, List.getD_eq_getElem?_getD, List.getElem?_eq_getElem h]
 rfl
def cc (a b : Cell) : Int := cmpC a.f0 a.f1 a.f2 b.f0 b.f1 b.f2
def rightC (a : Cell) : Bool := cellRight a.f0 a.f1 a.f2 a.f3 a.f4
theorem cc_in (a b : Cell) : cc a b = -1 ∨ cc a b = 0 ∨ cc a b = 1 := cmpC_in _ _ _ _ _ _
theorem cc_neg (a b : Cell) : cc b a = - cc a b := cmpC_neg _ _ _ _ _ _
theorem cc_zero {a b : Cell} : cc a b = 0 ↔ a.f0 = b.f0 ∧ a.f1 = b.f1 ∧ a.f2 = b.f2 := cmpC_zero
theorem cc_trans {a b c : Cell} (h : cc a b = -1) (h' : cc b c = -1) : cc a c = -1 := cmpC_trans h h'
theorem cc_self (a : Cell) : cc a a = 0 := cc_zero.2 ⟨rfl, rfl, rfl⟩
theorem cc_left {a b : Cell} (h : cc a b = 0) (c : Cell) : cc a c = cc b c := by
 obtain ⟨h1, h2, h3⟩ := cc_zero.1 h
 unfold cc
 rw [h1, h2, h3]
theorem cc_right {a b : Cell} (h : cc a b = 0) (c : Cell) : cc c a = cc c b := by
 obtain ⟨h1, h2, h3⟩ := cc_zero.1 h
 unfold cc
 rw [h1, h2, h3]
theorem cc_gt {a b : Cell} (h1 : ¬ cc a b = -1) (h2 : ¬ cc a b = 0) : cc b a = -1 := by
 have := cc_in a b
 have := cc_neg a b
 omega
theorem cc_sym {a b : Cell} (h : cc a b = 0) : cc b a = 0 := by
 have := cc_neg a b
 omega
def ins (c : Cell) : List Cell → List Cell
 | [] => [c]
 | x :: l => if cc x c = -1 then x :: ins c l else if cc x c = 0 then c :: l else c :: x :: l
def sortC (l : List Cell) : List Cell := l.foldl (fun o c => ins c o) []
def OrdC (l : List Cell) : Prop := l.Pairwise (fun a b => cc a b = -1)
def RightsC (l : List Cell) : Prop := ∀ c ∈ l, rightC c = true
def SrtC (l : List Cell) : Prop := RightsC l ∧ OrdC l
theorem mem_ins {c x : Cell} : ∀ {l : List Cell}, x ∈ ins c l → x = c ∨ x ∈ l
 | [], h => by simp only [ins, List.mem_singleton] at h; exact .inl h
 | y :: l, h => by
  unfold ins at h
  split at h
  ·
   rcases List.mem_cons.1 h with rfl | h
   ·
    exact .inr (List.mem_cons_self)
   ·
    exact (mem_ins h).imp id (List.mem_cons_of_mem _)
  ·
   split at h
   ·
    rcases List.mem_cons.1 h with rfl | h
    ·
     exact .inl rfl
    ·
     exact .inr (List.mem_cons_of_mem _ h)
   ·
    rcases List.mem_cons.1 h with rfl | h
    ·
     exact .inl rfl
    ·
     exact .inr h
theorem ins_mem (c : Cell) : ∀ l : List Cell, c ∈ ins c l
 | [] => by simp [ins]
 | y :: l => by
  unfold ins
  split
  ·
   exact List.mem_cons_of_mem _ (ins_mem c l)
  ·
   split <;> exact List.mem_cons_self
theorem mem_ins_of {c x : Cell} (hx : cc x c ≠ 0) : ∀ {l : List Cell}, x ∈ l → x ∈ ins c l
 | [], h => by cases h
 | y :: l, h => by
  unfold ins
  split
  ·
   rcases List.mem_cons.1 h with rfl | h
   ·
    exact List.mem_cons_self
   ·
    exact List.mem_cons_of_mem _ (mem_ins_of hx h)
  ·
   split
   ·
    rename_i h0
    rcases List.mem_cons.1 h with rfl | h
    ·
     exact absurd h0 hx
    ·
     exact List.mem_cons_of_mem _ h
   ·
    exact List.mem_cons_of_mem _ h
theorem ord_ins {c : Cell} : ∀ {l : List Cell}, OrdC l → OrdC (ins c l)
 | [], _ => by simp [ins, OrdC]
 | y :: l, h => by
  obtain ⟨h1, h2⟩ := List.pairwise_cons.1 h
  unfold ins
  split
  ·
   rename_i hy
   refine List.pairwise_cons.2 ⟨fun z hz => ?_, ord_ins h2⟩
   rcases mem_ins hz with rfl | hz
   ·
    exact hy
   ·
    exact h1 z hz
  ·
   split
   ·
    rename_i h0
    refine List.pairwise_cons.2 ⟨fun z hz => ?_, h2⟩
    rw [← cc_left h0]
    exact h1 z hz
   ·
    rename_i hn h0
    have hg := cc_gt hn h0
    refine List.pairwise_cons.2 ⟨fun z hz => ?_, h⟩
    rcases List.mem_cons.1 hz with rfl | hz
    ·
     exact hg
    ·
     exact cc_trans hg (h1 z hz)
theorem rights_ins {c : Cell} {l : List Cell} (hc : rightC c = true) (h : RightsC l) : RightsC (ins c l) := fun x hx => (mem_ins hx).elim (fun e => e ▸ hc) (h x)
theorem srt_ins {c : Cell} {l : List Cell} (hc : rightC c = true) (h : SrtC l) : SrtC (ins c l) := ⟨rights_ins hc h.1, ord_ins h.2⟩
theorem ins_length (c : Cell) : ∀ l : List Cell, (ins c l).length ≤ l.length + 1
 | [] => by simp [ins]
 | y :: l => by
  have := ins_length c l
  unfold ins
  split
  ·
   simp only [List.length_cons]; omega
  ·
   split <;> simp only [List.length_cons] <;> omega
theorem foldl_srt : ∀ (l o : List Cell), RightsC l → SrtC o → SrtC (l.foldl (fun o c => ins c o) o)
 | [], _, _, h => h
 | c :: l, o, hl, h => foldl_srt l (ins c o) (fun x hx => hl x (List.mem_cons_of_mem _ hx)) (srt_ins (hl c List.mem_cons_self) h)
theorem foldl_length : ∀ (l o : List Cell), (l.foldl (fun o c => ins c o) o).length ≤ o.length + l.length
 | [], o => by simp
 | c :: l, o => by
  have h1 := foldl_length l (ins c o)
  have h2 := ins_length c o
  simp only [List.foldl_cons, List.length_cons]
  omega
theorem srt_nil : SrtC [] := ⟨fun _ hx => (by cases hx), List.Pairwise.nil⟩
theorem sortC_srt {l : List Cell} (h : RightsC l) : SrtC (sortC l) := foldl_srt l [] h srt_nil
theorem sortC_length (l : List Cell) : (sortC l).length ≤ l.length := by
 have := foldl_length l []
 simpa [sortC] using this
theorem ins_split (c : Cell) : ∀ (l : List Cell) (i : Nat), i ≤ l.length → (∀ j (_ : j < i) (hl : j < l.length), cc l[j] c = -1) → (∀ h : i < l.length, ¬ cc l[i] c = -1) →
  ins c l = l.take i ++ c :: (l.drop (if h : i < l.length then (if cc l[i] c = 0 then i + 1 else i) else i))
 | [], i, hi, _, _ => by
  have : i = 0 := by simpa using hi
  subst this
  simp [ins]
 | x :: l, 0, _, _, h2 => by
  have h3 := h2 (by simp)
  simp only [List.getElem_cons_zero] at h3
  unfold ins
  rw [if_neg h3]
  by_cases h0 : cc x c = 0
  ·
   simp [h0]
  ·
   simp [h0]
 | x :: l, i + 1, hi, h1, h2 => by
  have hx := h1 0 (by omega) (by simp)
  simp only [List.getElem_cons_zero] at hx
  unfold ins
  rw [if_pos hx, ins_split c l i (by simpa using hi) (fun j hj hl => by have := h1 (j + 1) (by omega) (by simpa using hl); simpa using this) (fun hl => by have := h2 (by simpa using hl); simpa using this)]
  by_cases hl : i < l.length
  ·
   by_cases h0 : cc l[i] c = 0
   ·
    simp [hl, h0]
   ·
    simp [hl, h0]
  ·
   simp [hl]
theorem rightC_iff {a : Cell} : rightC a = true ↔ 1 ≤ a.f0.size ∧ a.f0.size ≤ 64 ∧ 1 ≤ a.f1.size ∧ a.f1.size ≤ 64 ∧ 0 ≤ a.f2 ∧ a.f2 ≤ 4294967295 ∧ a.f3.size ≤ 256 ∧ (a.f4 = false ∨ a.f3.size = 0) := cellRight_iff
end Go.Proofs.Ythphffimgmbhgaa.Pl

/- Ascending lists of numbers: what sorting and compacting gives. No condition. -/
import Derived.Test.YtppojihmllmgnaaEvMore
import Derived.Lib.SlicesCompact
namespace Go.Proofs.Ytppojihmllmgnaa.Opn
open Go.RowKit Go.Proofs.YtppojihmllmgnaaW.PrintWords
set_option linter.unusedVariables false
set_option linter.unusedSimpArgs false
theorem asc_ext : ∀ (l1 l2 : List Int), l1.Pairwise (· < ·) → l2.Pairwise (· < ·) → (∀ x, x ∈ l1 ↔ x ∈ l2) → l1 = l2
  | [], [], _, _, _ => rfl
  | [], b :: l2, _, _, h => absurd ((h b).2 List.mem_cons_self) (by simp)
  | a :: l1, [], _, _, h => absurd ((h a).1 List.mem_cons_self) (by simp)
  | a :: l1, b :: l2, h1, h2, h => by
    rw [List.pairwise_cons] at h1 h2
    have hab : a = b := by
      rcases List.mem_cons.1 ((h a).1 List.mem_cons_self) with e | e
      · exact e
      · rcases List.mem_cons.1 ((h b).2 List.mem_cons_self) with e' | e'
        · exact e'.symm
        · have := h2.1 a e
          have := h1.1 b e'
          omega
    subst hab
    congr 1
    refine asc_ext l1 l2 h1.2 h2.2 (fun x => ⟨fun hx => ?_, fun hx => ?_⟩)
    · rcases List.mem_cons.1 ((h x).1 (List.mem_cons_of_mem _ hx)) with e | e
      · have := h1.1 x hx
        omega
      · exact e
    · rcases List.mem_cons.1 ((h x).2 (List.mem_cons_of_mem _ hx)) with e | e
      · have := h2.1 x hx
        omega
      · exact e
theorem compact_asc (l : List Int) : (Go.Lib.compact (l.mergeSort fun x y => decide (x ≤ y))).Pairwise (· < ·) ∧ ∀ x, x ∈ Go.Lib.compact (l.mergeSort fun x y => decide (x ≤ y)) ↔ x ∈ l := by
  have hperm := List.mergeSort_perm l (fun x y => decide (x ≤ y))
  have hsort : (l.mergeSort fun x y => decide (x ≤ y)).Pairwise (fun a b => decide (a ≤ b) = true) := List.pairwise_mergeSort (fun a b c h1 h2 => by simp at *; omega) (fun a b => by simp; omega) l
  have hmem : ∀ x, x ∈ (l.mergeSort fun x y => decide (x ≤ y)) ↔ x ∈ l := fun x => hperm.mem_iff
  generalize (l.mergeSort fun x y => decide (x ≤ y)) = s at hsort hmem
  rw [List.pairwise_iff_getElem] at hsort
  have hget : ∀ j (h : j < s.length), s.toArray[j]! = s[j] := fun j h => by simp [getElem!_pos, h]
  unfold Go.Lib.compact Go.Lib.compactUpTo
  constructor
  · rw [List.pairwise_map, List.pairwise_filter, List.pairwise_iff_getElem]
    intro i j hi hj hij _ hk
    simp only [List.getElem_range] at hk ⊢
    rw [List.length_range] at hi hj
    simp only [Go.Lib.keeps, decide_eq_true_eq] at hk
    rcases hk with hk | hk
    · omega
    · rw [hget i hi, hget j hj]
      rw [hget j hj, hget (j - 1) (by omega)] at hk
      have h1 : s[i] ≤ s[j - 1] := by
        by_cases e : i = j - 1
        · subst e; exact Int.le_refl _
        · simpa using hsort i (j - 1) hi (by omega) (by omega)
      have h2 : s[j - 1] ≤ s[j] := by simpa using hsort (j - 1) j (by omega) hj (by omega)
      omega
  · intro x
    rw [← hmem]
    have hfirst : ∀ j (h : j < s.length), ∃ i, ∃ (h' : i < s.length), Go.Lib.keeps s.toArray i = true ∧ s[i] = s[j] := by
      intro j
      induction j with
      | zero => intro h; exact ⟨0, h, by simp [Go.Lib.keeps], rfl⟩
      | succ j ih =>
        intro h
        by_cases hk : Go.Lib.keeps s.toArray (j + 1) = true
        · exact ⟨j + 1, h, hk, rfl⟩
        · obtain ⟨i, h', hi, he⟩ := ih (by omega)
          refine ⟨i, h', hi, ?_⟩
          simp only [Go.Lib.keeps, decide_eq_true_eq] at hk
          rw [hget (j + 1) h, hget (j + 1 - 1) (by omega)] at hk
          have : s[j + 1] = s[j] := by
            by_cases e : s[j + 1] = s[j]
            · exact e
            · exact absurd (Or.inr e) hk
          rw [he, this]
    simp only [List.mem_map, List.mem_filter, List.mem_range]
    constructor
    · rintro ⟨j, ⟨hj, _⟩, rfl⟩
      rw [hget j hj]
      exact List.getElem_mem hj
    · intro hx
      obtain ⟨j, hj, rfl⟩ := List.getElem_of_mem hx
      obtain ⟨i, h', hi, he⟩ := hfirst j hj
      exact ⟨i, ⟨h', hi⟩, by rw [hget i h', he]⟩
theorem range_asc (n : Nat) (p : Nat → Bool) : (((List.range n).filter p).map (fun w : Nat => (w : Int))).Pairwise (· < ·) := by
  rw [List.pairwise_map, List.pairwise_filter]
  exact (List.pairwise_lt_range).imp (fun h _ _ => by omega)
end Go.Proofs.Ytppojihmllmgnaa.Opn

/- Limits, pieces and boxes: what is asked of limits. No condition. -/
import Derived.Test.YtnldmnlfocigaaaPieceBase
import Derived.Test.YtnldmnlfocigaaaF52
import Derived.Test.YtnldmnlfocigaaaF51
namespace Go.Proofs.Ytnldmnlfocigaaa.F
open Go.RowKit Go.Proofs.YtnldmnlfocigaaaW.PrintWords Go.Proofs.YtnldmnlfocigaaaW.PrintLast Go.Proofs.Ytnldmnlfocigaaa.Opn
set_option linter.unusedVariables false
set_option linter.unusedSimpArgs false
def LO (a b : Int) : Prop := 60 ≤ a ∧ a ≤ 2000 ∧ 1 ≤ b ∧ b ≤ 40
instance (a b : Int) : Decidable (LO a b) := by unfold LO; infer_instance
theorem impl_LimitsOk_eq (a b : Int) : impl_LimitsOk.f a b = some (decide (LO a b)) := by
  unfold impl_LimitsOk.f LO
  by_cases h1 : a ≥ 60
  · by_cases h2 : a ≤ 2000
    · by_cases h3 : b ≥ 1
      · simp [h1, h2, h3]
      · simp [h1, h2, h3]
    · simp [h1, h2]
  · simp [h1]
theorem spec_LimitsOk_eq (a b : Int) : spec_LimitsOk.f a b = some (decide (LO a b)) := by
  unfold spec_LimitsOk.f LO
  simp only [l01In_eqB, Option.bind_some]
  by_cases h : 60 ≤ a ∧ a ≤ 2000
  · rw [if_pos (decide_eq_true h)]
    simp [h.1, h.2]
  · rw [if_neg (by simpa using h)]
    simp only [Option.some.injEq]
    symm
    exact decide_eq_false (fun h' => h ⟨h'.1, h'.2.1⟩)
theorem take_snoc (l : List Pc) (i : Nat) (hi : i < l.length) : l.take (i + 1) = l.take i ++ [l.getD i z80] := by
  rw [List.take_succ_eq_append_getElem hi, List.getD_eq_getElem?_getD, List.getElem?_eq_getElem hi]; rfl
theorem PP_mem {l : List Pc} (h : PP l) : ∀ x ∈ l, pOk x := by
  intro x hx
  obtain ⟨j, hj, rfl⟩ := List.getElem_of_mem hx
  have := h.2.1 j hj
  rwa [List.getD_eq_getElem?_getD, List.getElem?_eq_getElem hj] at this
abbrev Bx := S62
theorem rdBx_nat (l : List Bx) (i : Nat) : rd_T62 l (i : Int) = l.getD i z62 := by simp [rd_T62]
end Go.Proofs.Ytnldmnlfocigaaa.F

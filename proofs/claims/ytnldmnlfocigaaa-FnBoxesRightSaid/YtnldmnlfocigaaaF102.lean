-- PRINTED by print.py (a twelfth state) out of the translation. Not trusted: Lean checks it.
import Derived.Test.YtnldmnlfocigaaaF
import Derived.Test.YtnldmnlfocigaaaShelf
import Derived.Test.YtnldmnlfocigaaaRowShelf
namespace Go.Proofs.Ytnldmnlfocigaaa.F
open Go.Proofs.Ytnldmnlfocigaaa.Opn
open Go.RowKit Go.Proofs.YtnldmnlfocigaaaW.PrintWords Go.Proofs.YtnldmnlfocigaaaW.PrintLast
set_option linter.unusedVariables false
set_option linter.unusedSimpArgs false

/-! ### slices_Sort_int_int: function 102 -/
-- use Shelf
-- use RowShelf
def slices_Sort_int_int.f (l0 : List Int) : Option (List Int) := if l0.length < 140737488355328 then some (l0.mergeSort fun x y => decide (x ≤ y)) else none
theorem slices_Sort_int_int.calls (P0_ : Nat → Prop) (u9000_ : Value) (l0 : List Int) (r : List Int) (w0 w : World) (hB : Below w0.heap.size w0 w) (ho0 : Kd.R (Kd.int .i64) 3 w w0.heap.size P0_ u9000_ l0) (h : slices_Sort_int_int.f l0 = some r) :
    Calls Try.prog 102 #[u9000_] w fun e w' => e = .returned (.tuple #[]) ∧ Kd.R (Kd.int .i64) 3 w' w0.heap.size (fun k_ => (P0_ k_ ∨ w.heap.size ≤ k_)) u9000_ r ∧ Below w0.heap.size w0 w' ∧ Kept w w' (fun k_ => P0_ k_) := by
  unfold slices_Sort_int_int.f at h
  split at h
  · rename_i hsz
    obtain rfl := Option.some.inj h
    rcases Nat.eq_zero_or_pos l0.length with h0 | hp
    · obtain rfl := List.eq_nil_of_length_eq_zero h0
      obtain ⟨inner, ho⟩ := Kd.R_own ho0
      obtain ⟨A, c, rfl⟩ := own_slice ho
      refine (Try.slices_Sort_int_none A c w).mono ?_
      rintro e w' ⟨rfl, rfl⟩
      rw [List.mergeSort_nil]
      exact ⟨rfl, Kd.R_mono ho0 (fun k hk => .inl hk), hB, Kept.refl _ _⟩
    · obtain ⟨g, cap, rfl, _, _, _⟩ := Kd.R_form ho0 hp
      obtain ⟨_, hnc, hmx, hlt, hbase, hg, hH⟩ := R_holdsI ho0
      refine (Try.slices_Sort_int g 0 cap l0 w hH hlt (by omega)).mono ?_
      rintro e w' ⟨rfl, q, os, rfl⟩
      obtain ⟨h1, h2, h3⟩ := R_putI ho0 (ys := l0.mergeSort fun x y => decide (x ≤ y)) (by simp) q os hB
      exact ⟨rfl, Kd.R_mono h1 (fun k hk => .inl hk), h2, h3.mono (fun k hk => by rw [hk]; exact hg)⟩
  · cases h

end Go.Proofs.Ytnldmnlfocigaaa.F

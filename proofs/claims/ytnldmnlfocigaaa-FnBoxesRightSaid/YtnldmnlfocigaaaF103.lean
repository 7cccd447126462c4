-- PRINTED by print.py (a twelfth state) out of the translation. Not trusted: Lean checks it.
import Derived.Test.YtnldmnlfocigaaaF
import Derived.Test.YtnldmnlfocigaaaShelf
import Derived.Test.YtnldmnlfocigaaaRowShelf
namespace Go.Proofs.Ytnldmnlfocigaaa.F
open Go.Proofs.Ytnldmnlfocigaaa.Opn
open Go.RowKit Go.Proofs.YtnldmnlfocigaaaW.PrintWords Go.Proofs.YtnldmnlfocigaaaW.PrintLast
set_option linter.unusedVariables false
set_option linter.unusedSimpArgs false

/-! ### slices_Compact_int_int: function 103 -/
-- use Shelf
-- use RowShelf
def slices_Compact_int_int.f (l0 : List Int) : Option (List Int) := some (Go.Lib.compact l0)
theorem slices_Compact_int_int.short (l0 : List Int) : (Go.Lib.compact l0).length ≤ l0.length := by
  unfold Go.Lib.compact Go.Lib.compactUpTo
  rw [List.length_map]
  exact Nat.le_trans (List.length_filter_le _ _) (by simp)
theorem slices_Compact_int_int.calls (P0_ : Nat → Prop) (u9000_ : Value) (l0 : List Int) (r : List Int) (w0 w : World) (hB : Below w0.heap.size w0 w) (ho0 : Kd.R (Kd.int .i64) 3 w w0.heap.size P0_ u9000_ l0) (h : slices_Compact_int_int.f l0 = some r) :
    Calls Try.prog 103 #[u9000_] w fun e w' => ∃ v0_ : Value, e = .returned (v0_) ∧ Kd.R (Kd.int .i64) 3 w' w0.heap.size (fun k_ => (P0_ k_ ∨ w.heap.size ≤ k_)) v0_ r ∧ Below w0.heap.size w0 w' ∧ Kept w w' (fun k_ => P0_ k_) := by
  obtain rfl := Option.some.inj h
  rcases Nat.eq_zero_or_pos l0.length with h0 | hp
  · obtain rfl := List.eq_nil_of_length_eq_zero h0
    obtain ⟨inner, ho⟩ := Kd.R_own ho0
    obtain ⟨A, c, rfl⟩ := own_slice ho
    refine (Try.slices_Compact_int_empty A c w).mono ?_
    rintro e w' ⟨rfl, rfl⟩
    exact ⟨_, rfl, Kd.R_mono ho0 (fun k hk => .inl hk), hB, Kept.refl _ _⟩
  · obtain ⟨g, cap, rfl, _, _, _⟩ := Kd.R_form ho0 hp
    obtain ⟨_, hnc, hmx, hlt, hbase, hg, hH⟩ := R_holdsI ho0
    have hle := slices_Compact_int_int.short l0
    refine (Try.slices_Compact_int g 0 cap l0 w hH hmx hnc).mono ?_
    rintro e w' ⟨rfl, q, hw⟩
    have hw' : w' = Go.Sort.grow (Go.Sort.putRow (Value.int .i64) (Go.Sort.ahead w q) g 0 (Go.Lib.compact l0 ++ List.replicate (l0.length - (Go.Lib.compact l0).length) 0).toArray) #[] := by rw [hw, Go.Sort.grow_empty]
    subst hw'
    clear hw
    obtain ⟨h1, h2, h3⟩ := R_putI ho0 (ys := Go.Lib.compact l0 ++ List.replicate (l0.length - (Go.Lib.compact l0).length) 0) (by simp; omega) q #[] hB
    have h4 := Kd.R_take h1 (m := (Go.Lib.compact l0).length) (by simp)
    rw [List.take_left] at h4
    exact ⟨_, rfl, Kd.R_mono h4 (fun k hk => .inl hk), h2, h3.mono (fun k hk => by rw [hk]; exact hg)⟩

end Go.Proofs.Ytnldmnlfocigaaa.F

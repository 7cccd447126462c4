-- PRINTED by print.py (a twelfth state) out of the translation. Not trusted: Lean checks it.
import Derived.Test.YtnldmnlfocigaaaF
import Derived.Test.YtnldmnlfocigaaaF99
namespace Go.Proofs.Ytnldmnlfocigaaa.F
open Go.Proofs.Ytnldmnlfocigaaa.Opn
open Go.RowKit Go.Proofs.YtnldmnlfocigaaaW.PrintWords Go.Proofs.YtnldmnlfocigaaaW.PrintLast
set_option linter.unusedVariables false
set_option linter.unusedSimpArgs false

/-! ### impl_areLaid_1__slices_ContainsFunc_int_int: closure 100x99 -/
def impl_areLaid_1__slices_ContainsFunc_int_int.f (l0 : List Int) (a1 : Int) : Option Bool := some (l0.any (fun x => decide (x < a1) || decide (2000 < x)))
theorem impl_areLaid_1__slices_ContainsFunc_int_int.closure (a1 : Int) (B1 : Nat) (w : World) (hb1 : w.heap[B1]? = some (.cells #[.int .i64 a1] 3 (0, 0))) :
    ∀ (W : World) (x : Int), Below w.heap.size w W → Calls Try.prog 100 (#[.int .i64 x] ++ #[.pointer (some ⟨B1, 0, none⟩)]) W fun e w' => e = .returned (.bool (decide (x < a1) || decide (2000 < x))) ∧ Below W.heap.size W w' := by
  intro W x hb
  have c1 : W.cell? ⟨B1, 0, none⟩ = some (.int .i64 a1) := (blk_cell (blk_below hb1 hb) 0).trans rfl
  have l1 : B1 < W.heap.size := blk_lt (blk_below hb1 hb)
  have n1 : B1 ≠ W.heap.size := by omega
  clear hb hb1
  show Calls Try.prog 100 #[.int .i64 x, .pointer (some ⟨B1, 0, none⟩)] W _
  by_cases hq : x < a1
  · have d1 : decide (x < a1) = true := decide_eq_true hq
    go_enter Try.func100, Try.ntmps100
    go_wp2
    go_ret
    exact ⟨by rw [d1]; rfl, Below.refl _ _⟩
  · have d1 : decide (x < a1) = false := decide_eq_false hq
    go_enter Try.func100, Try.ntmps100
    go_wp2
    go_ret
    exact ⟨rfl, Below.refl _ _⟩
theorem impl_areLaid_1__slices_ContainsFunc_int_int.calls (A0 : Option Addr) (c0 : Nat) (l0 : List Int) (a1 : Int) (B1 : Nat) (r : Bool) (w : World) (hr0 : Kd.C (Kd.int .i64) w A0 l0.length l0) (hc0 : l0.length ≤ c0)
    (hb1 : w.heap[B1]? = some (.cells #[.int .i64 a1] 3 (0, 0))) (h : impl_areLaid_1__slices_ContainsFunc_int_int.f l0 a1 = some r) :
    Calls Try.prog 99 #[.slice A0 l0.length c0, .func (.func 100) #[] #[.pointer (some ⟨B1, 0, none⟩)]] w fun e w' => e = .returned (.bool r) ∧ Below w.heap.size w w' := by
  obtain rfl := Option.some.inj h
  exact slices_ContainsFunc_int_int.callsFn _ _ _ (enters_ Try.func100 (by kernel_rfl) rfl) A0 c0 l0 w hr0 (impl_areLaid_1__slices_ContainsFunc_int_int.closure a1 B1 w hb1)

end Go.Proofs.Ytnldmnlfocigaaa.F

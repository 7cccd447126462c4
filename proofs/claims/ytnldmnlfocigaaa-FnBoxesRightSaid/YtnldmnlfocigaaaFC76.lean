-- PRINTED by print.py (a twelfth state) out of the translation. Not trusted: Lean checks it.
import Derived.Test.YtnldmnlfocigaaaF
import Derived.Test.YtnldmnlfocigaaaF76
namespace Go.Proofs.Ytnldmnlfocigaaa.F
open Go.Proofs.Ytnldmnlfocigaaa.Opn
open Go.RowKit Go.Proofs.YtnldmnlfocigaaaW.PrintWords Go.Proofs.YtnldmnlfocigaaaW.PrintLast
set_option linter.unusedVariables false
set_option linter.unusedSimpArgs false

/-! ### impl_BoxesOk_1__slices_IndexFunc_impl_Piece: closure 77x76 -/
def impl_BoxesOk_1__slices_IndexFunc_impl_Piece.f (l0 : List S80) (a1 : Int) : Option Int := some (fidx (fun x => x.f0 == a1) l0)
theorem impl_BoxesOk_1__slices_IndexFunc_impl_Piece.closure (a1 : Int) (B1 : Nat) (w : World) (hb1 : w.heap[B1]? = some (.cells #[.int .i64 a1] 3 (0, 0))) :
    ∀ (W : World) (x : S80), Below w.heap.size w W → Calls Try.prog 77 (#[.agg #[.int .i64 x.f0, .int .i64 x.f1, .int .i64 x.f2]] ++ #[.pointer (some ⟨B1, 0, none⟩)]) W fun e w' => e = .returned (.bool (x.f0 == a1)) ∧ Below W.heap.size W w' := by
  intro W x hb
  have c1 : W.cell? ⟨B1, 0, none⟩ = some (.int .i64 a1) := (blk_cell (blk_below hb1 hb) 0).trans rfl
  have l1 : B1 < W.heap.size := blk_lt (blk_below hb1 hb)
  have n1 : B1 ≠ W.heap.size := by omega
  clear hb hb1
  show Calls Try.prog 77 #[.agg #[.int .i64 x.f0, .int .i64 x.f1, .int .i64 x.f2], .pointer (some ⟨B1, 0, none⟩)] W _
  go_enter Try.func77, Try.ntmps77
  go_wp2
  go_ret
  exact ⟨rfl, below_alloc (Below.refl _ _) _⟩
theorem impl_BoxesOk_1__slices_IndexFunc_impl_Piece.calls (A0 : Option Addr) (c0 : Nat) (l0 : List S80) (a1 : Int) (B1 : Nat) (r : Int) (w : World) (hr0 : Kd.C k80 w A0 l0.length l0) (hc0 : l0.length ≤ c0)
    (hb1 : w.heap[B1]? = some (.cells #[.int .i64 a1] 3 (0, 0))) (h : impl_BoxesOk_1__slices_IndexFunc_impl_Piece.f l0 a1 = some r) :
    Calls Try.prog 76 #[.slice A0 l0.length c0, .func (.func 77) #[] #[.pointer (some ⟨B1, 0, none⟩)]] w fun e w' => e = .returned (.int .i64 r) ∧ Below w.heap.size w w' := by
  obtain rfl := Option.some.inj h
  exact slices_IndexFunc_impl_Piece.callsFn _ _ _ (enters_ Try.func77 (by kernel_rfl) rfl) A0 c0 l0 w hr0 (impl_BoxesOk_1__slices_IndexFunc_impl_Piece.closure a1 B1 w hb1)

end Go.Proofs.Ytnldmnlfocigaaa.F

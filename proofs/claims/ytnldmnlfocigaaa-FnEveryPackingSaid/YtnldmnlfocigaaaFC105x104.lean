-- PRINTED by print.py (a twelfth state) out of the translation. Not trusted: Lean checks it.
import Derived.Test.YtnldmnlfocigaaaF
import Derived.Test.YtnldmnlfocigaaaF104
namespace Go.Proofs.Ytnldmnlfocigaaa.F
open Go.Proofs.Ytnldmnlfocigaaa.Opn
open Go.RowKit Go.Proofs.YtnldmnlfocigaaaW.PrintWords Go.Proofs.YtnldmnlfocigaaaW.PrintLast
set_option linter.unusedVariables false
set_option linter.unusedSimpArgs false

/-! ### impl_ofClass_1__slices_DeleteFunc_impl_Piece: closure 105x104 -/
def impl_ofClass_1__slices_DeleteFunc_impl_Piece.f (l0 : List S80) (a1 : Int) : Option (List S80) := some (l0.filter fun x => !(x.f2 != a1))
theorem impl_ofClass_1__slices_DeleteFunc_impl_Piece.closure (a1 : Int) (B1 : Nat) (W : World) (x : S80) (hb1 : W.heap[B1]? = some (.cells #[.int .i64 a1] 3 (0, 0))) :
    Calls Try.prog 105 (#[.agg #[.int .i64 x.f0, .int .i64 x.f1, .int .i64 x.f2]] ++ #[.pointer (some ⟨B1, 0, none⟩)]) W fun e w' => e = .returned (.bool (x.f2 != a1)) ∧ Below W.heap.size W w' := by
  have c1 : W.cell? ⟨B1, 0, none⟩ = some (.int .i64 a1) := (blk_cell hb1 0).trans rfl
  have l1 : B1 < W.heap.size := blk_lt hb1
  have n1 : B1 ≠ W.heap.size := by omega
  clear hb1
  show Calls Try.prog 105 #[.agg #[.int .i64 x.f0, .int .i64 x.f1, .int .i64 x.f2], .pointer (some ⟨B1, 0, none⟩)] W _
  go_enter Try.func105, Try.ntmps105
  go_wp2
  go_ret
  exact ⟨rfl, below_alloc (Below.refl _ _) _⟩
theorem impl_ofClass_1__slices_DeleteFunc_impl_Piece.calls (P0_ : Nat → Prop) (u9000_ : Value) (l0 : List S80) (a1 : Int) (B1 : Nat) (r : List S80) (w0 w : World) (hB : Below w0.heap.size w0 w) (ho0 : Kd.R k80 80 w w0.heap.size P0_ u9000_ l0)
    (hb1 : w.heap[B1]? = some (.cells #[.int .i64 a1] 3 (0, 0))) (h : impl_ofClass_1__slices_DeleteFunc_impl_Piece.f l0 a1 = some r) :
    Calls Try.prog 104 #[u9000_, .func (.func 105) #[] #[.pointer (some ⟨B1, 0, none⟩)]] w fun e w' => ∃ v0_ : Value, e = .returned (v0_) ∧ Kd.R k80 80 w' w0.heap.size (fun k_ => (P0_ k_ ∨ w.heap.size ≤ k_)) v0_ r ∧ Below w0.heap.size w0 w' ∧ Kept w w' (fun k_ => P0_ k_) := by
  obtain rfl := Option.some.inj h
  have hr := Kd.R_types ho0 hb1 (by decide)
  refine (slices_DeleteFunc_impl_Piece.callsFn (fun x => x.f2 != a1) _ _ (enters_ Try.func105 (by kernel_rfl) rfl) _ u9000_ l0 w0 w hB hr (fun W x hb hk =>
    impl_ofClass_1__slices_DeleteFunc_impl_Piece.closure a1 B1 W x (blk_kept hb1 hk (fun h => h.2 rfl)))).mono ?_
  rintro e w' ⟨v, rfl, h1, h2, h3⟩
  exact ⟨v, rfl, Kd.R_mono h1 (fun k hk => hk.elim (fun h => .inl h.1) .inr), h2, h3.mono (fun k hk => hk.1)⟩

end Go.Proofs.Ytnldmnlfocigaaa.F

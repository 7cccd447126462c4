-- PRINTED by print.py (a twelfth state) out of the translation. Not trusted: Lean checks it.
import Derived.Test.YtppojihmllmgnaaF
import Derived.Test.YtppojihmllmgnaaF91
namespace Go.Proofs.Ytppojihmllmgnaa.F
open Go.Proofs.Ytppojihmllmgnaa.Opn
open Go.RowKit Go.Proofs.YtppojihmllmgnaaW.PrintWords Go.Proofs.YtppojihmllmgnaaW.PrintLast
set_option linter.unusedVariables false
set_option linter.unusedSimpArgs false

/-! ### impl_noteAt_1__slices_IndexFunc_impl_Note: closure 92x91 -/
def impl_noteAt_1__slices_IndexFunc_impl_Note.f (l0 : List S25) (a1 : Int) : Option Int := some (fidx (fun x => x.f0 == a1) l0)
theorem impl_noteAt_1__slices_IndexFunc_impl_Note.closure (a1 : Int) (B1 : Nat) (w : World) (hb1 : w.heap[B1]? = some (.cells #[.int .i64 a1] 3 (0, 0))) :
    ∀ (W : World) (x : S25), Below w.heap.size w W → Calls Try.prog 92 (#[.agg #[.int .i64 x.f0, .int .i64 x.f1, .int .i64 x.f2, .int .i64 x.f3, .int .i64 x.f4]] ++ #[.pointer (some ⟨B1, 0, none⟩)]) W fun e w' => e = .returned (.bool (x.f0 == a1)) ∧ Below W.heap.size W w' := by
  intro W x hb
  have c1 : W.cell? ⟨B1, 0, none⟩ = some (.int .i64 a1) := (blk_cell (blk_below hb1 hb) 0).trans rfl
  have l1 : B1 < W.heap.size := blk_lt (blk_below hb1 hb)
  have n1 : B1 ≠ W.heap.size := by omega
  clear hb hb1
  show Calls Try.prog 92 #[.agg #[.int .i64 x.f0, .int .i64 x.f1, .int .i64 x.f2, .int .i64 x.f3, .int .i64 x.f4], .pointer (some ⟨B1, 0, none⟩)] W _
  go_enter Try.func92, Try.ntmps92
  go_wp2
  go_ret
  exact ⟨rfl, below_alloc (Below.refl _ _) _⟩
theorem impl_noteAt_1__slices_IndexFunc_impl_Note.calls (A0 : Option Addr) (c0 : Nat) (l0 : List S25) (a1 : Int) (B1 : Nat) (r : Int) (w : World) (hr0 : Kd.C k25 w A0 l0.length l0) (hc0 : l0.length ≤ c0)
    (hb1 : w.heap[B1]? = some (.cells #[.int .i64 a1] 3 (0, 0))) (h : impl_noteAt_1__slices_IndexFunc_impl_Note.f l0 a1 = some r) :
    Calls Try.prog 91 #[.slice A0 l0.length c0, .func (.func 92) #[] #[.pointer (some ⟨B1, 0, none⟩)]] w fun e w' => e = .returned (.int .i64 r) ∧ Below w.heap.size w w' := by
  obtain rfl := Option.some.inj h
  exact slices_IndexFunc_impl_Note.callsFn _ _ _ (enters_ Try.func92 (by kernel_rfl) rfl) A0 c0 l0 w hr0 (impl_noteAt_1__slices_IndexFunc_impl_Note.closure a1 B1 w hb1)

end Go.Proofs.Ytppojihmllmgnaa.F

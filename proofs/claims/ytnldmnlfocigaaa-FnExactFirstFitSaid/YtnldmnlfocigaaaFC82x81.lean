-- PRINTED by print.py (a twelfth state) out of the translation. Not trusted: Lean checks it.
import Derived.Test.YtnldmnlfocigaaaF
import Derived.Test.YtnldmnlfocigaaaF81
namespace Go.Proofs.Ytnldmnlfocigaaa.F
open Go.Proofs.Ytnldmnlfocigaaa.Opn
open Go.RowKit Go.Proofs.YtnldmnlfocigaaaW.PrintWords Go.Proofs.YtnldmnlfocigaaaW.PrintLast
set_option linter.unusedVariables false
set_option linter.unusedSimpArgs false

/-! ### impl_FirstFit_1__slices_IndexFunc_impl_Box: closure 82x81 -/
def impl_FirstFit_1__slices_IndexFunc_impl_Box.p (p1 p2 m0 m1 : Int) (x : S62) : Bool := if x.f0 = p2 then (if (x.f2.length : Int) < m1 then decide (wrap64 (x.f1 + p1) ≤ m0) else false) else false
def impl_FirstFit_1__slices_IndexFunc_impl_Box.f (l0 : List S62) (p0 p1 p2 m0 m1 : Int) : Option Int := some (fidx (impl_FirstFit_1__slices_IndexFunc_impl_Box.p p1 p2 m0 m1) l0)
set_option maxHeartbeats 2000000 in
theorem impl_FirstFit_1__slices_IndexFunc_impl_Box.closure (p0 p1 p2 m0 m1 : Int) (B1 B2 : Nat) (w : World) (hb1 : w.heap[B1]? = some (.cells #[.int .i64 p0, .int .i64 p1, .int .i64 p2] 80 (0, 0))) (hb2 : w.heap[B2]? = some (.cells #[.int .i64 m0, .int .i64 m1] 49 (0, 0))) :
    ∀ (W : World) (x : S62) (A2 : Option Addr) (c2 : Nat), Below w.heap.size w W → Calls Try.prog 82 (#[.agg #[.int .i64 x.f0, .int .i64 x.f1, .slice A2 x.f2.length c2]] ++ #[.pointer (some ⟨B1, 0, none⟩), .pointer (some ⟨B2, 0, none⟩)]) W fun e w' => e = .returned (.bool (impl_FirstFit_1__slices_IndexFunc_impl_Box.p p1 p2 m0 m1 x)) ∧ Below W.heap.size W w' := by
  intro W x A2 c2 hb
  have hh1 := blk_below hb1 hb
  have hh2 := blk_below hb2 hb
  have a0 : W.cell? ⟨B1, 0, none⟩ = some (.int .i64 p0) := (blk_cell hh1 0).trans rfl
  have a1 : W.cell? ⟨B1, 1, none⟩ = some (.int .i64 p1) := (blk_cell hh1 1).trans rfl
  have a2 : W.cell? ⟨B1, 2, none⟩ = some (.int .i64 p2) := (blk_cell hh1 2).trans rfl
  have b0 : W.cell? ⟨B2, 0, none⟩ = some (.int .i64 m0) := (blk_cell hh2 0).trans rfl
  have b1 : W.cell? ⟨B2, 1, none⟩ = some (.int .i64 m1) := (blk_cell hh2 1).trans rfl
  have l1 : B1 < W.heap.size := blk_lt hh1
  have n1 : B1 ≠ W.heap.size := by omega
  have l2 : B2 < W.heap.size := blk_lt hh2
  have n2 : B2 ≠ W.heap.size := by omega
  clear hb hb1 hb2 hh1 hh2
  show Calls Try.prog 82 #[.agg #[.int .i64 x.f0, .int .i64 x.f1, .slice A2 x.f2.length c2], .pointer (some ⟨B1, 0, none⟩), .pointer (some ⟨B2, 0, none⟩)] W _
  unfold impl_FirstFit_1__slices_IndexFunc_impl_Box.p
  by_cases c1 : x.f0 = p2
  · have d1 : (x.f0 == p2) = true := beq_iff_eq.2 c1
    rw [if_pos c1]
    by_cases c3 : (x.f2.length : Int) < m1
    · have d2 : decide ((x.f2.length : Int) < m1) = true := decide_eq_true c3
      rw [if_pos c3]
      clear c1 c3
      go_enter Try.func82, Try.ntmps82
      go_wp2
      repeat (go_quiet (fail); try go_wp2)
      go_ret
      exact ⟨rfl, below_alloc (Below.refl _ _) _⟩
    · have d2 : decide ((x.f2.length : Int) < m1) = false := decide_eq_false c3
      rw [if_neg c3]
      clear c1 c3
      go_enter Try.func82, Try.ntmps82
      go_wp2
      repeat (go_quiet (fail); try go_wp2)
      go_ret
      exact ⟨rfl, below_alloc (Below.refl _ _) _⟩
  · have d1 : (x.f0 == p2) = false := beq_eq_false_iff_ne.2 c1
    rw [if_neg c1]
    clear c1
    go_enter Try.func82, Try.ntmps82
    go_wp2
    repeat (go_quiet (fail); try go_wp2)
    go_ret
    exact ⟨rfl, below_alloc (Below.refl _ _) _⟩
theorem impl_FirstFit_1__slices_IndexFunc_impl_Box.calls (A0 : Option Addr) (c0 : Nat) (l0 : List S62) (p0 p1 p2 m0 m1 : Int) (B1 B2 : Nat) (r : Int) (w : World) (hr0 : Kd.C k62 w A0 l0.length l0) (hc0 : l0.length ≤ c0)
    (hb1 : w.heap[B1]? = some (.cells #[.int .i64 p0, .int .i64 p1, .int .i64 p2] 80 (0, 0))) (hb2 : w.heap[B2]? = some (.cells #[.int .i64 m0, .int .i64 m1] 49 (0, 0))) (h : impl_FirstFit_1__slices_IndexFunc_impl_Box.f l0 p0 p1 p2 m0 m1 = some r) :
    Calls Try.prog 81 #[.slice A0 l0.length c0, .func (.func 82) #[] #[.pointer (some ⟨B1, 0, none⟩), .pointer (some ⟨B2, 0, none⟩)]] w fun e w' => e = .returned (.int .i64 r) ∧ Below w.heap.size w w' := by
  obtain rfl := Option.some.inj h
  exact slices_IndexFunc_impl_Box.callsFn _ _ _ (enters_ Try.func82 (by kernel_rfl) rfl) A0 c0 l0 w hr0 (impl_FirstFit_1__slices_IndexFunc_impl_Box.closure p0 p1 p2 m0 m1 B1 B2 w hb1 hb2)

end Go.Proofs.Ytnldmnlfocigaaa.F

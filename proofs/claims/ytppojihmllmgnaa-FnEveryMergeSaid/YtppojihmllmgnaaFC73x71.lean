-- PRINTED by print.py (a twelfth state) out of the translation. Not trusted: Lean checks it.
import Derived.Test.YtppojihmllmgnaaF
import Derived.Test.YtppojihmllmgnaaF71
import Derived.Test.YtppojihmllmgnaaF74
namespace Go.Proofs.Ytppojihmllmgnaa.F
open Go.Proofs.Ytppojihmllmgnaa.Opn
open Go.RowKit Go.Proofs.YtppojihmllmgnaaW.PrintWords Go.Proofs.YtppojihmllmgnaaW.PrintLast
set_option linter.unusedVariables false
set_option linter.unusedSimpArgs false

/-! ### impl_Unknown_1__slices_DeleteFunc_impl_Note: closure 73x71 -/
def impl_Unknown_1__slices_DeleteFunc_impl_Note.f (l0 : List S25) (l1 : List S25) : Option (List S25) := some (l0.filter fun x => !decide (fidx (fun y => y.f0 == x.f0) l1 ≥ 0))
theorem impl_Unknown_1__slices_DeleteFunc_impl_Note.closure (A1 : Option Addr) (c1 : Nat) (l1 : List S25) (B1 : Nat) (W : World) (x : S25) (hr1 : Kd.C k25 W A1 l1.length l1) (hc1 : l1.length ≤ c1) (hb1 : W.heap[B1]? = some (.cells #[.slice A1 l1.length c1] 31 (0, 0))) :
    Calls Try.prog 73 (#[.agg #[.int .i64 x.f0, .int .i64 x.f1, .int .i64 x.f2, .int .i64 x.f3, .int .i64 x.f4]] ++ #[.pointer (some ⟨B1, 0, none⟩)]) W fun e w' => e = .returned (.bool (decide (fidx (fun y => y.f0 == x.f0) l1 ≥ 0))) ∧ Below W.heap.size W w' := by
  have b1 : W.cell? ⟨B1, 0, none⟩ = some (.slice A1 l1.length c1) := (blk_cell hb1 0).trans rfl
  have lt1 : B1 < W.heap.size := blk_lt hb1
  have n1 : B1 ≠ W.heap.size := by omega
  clear hb1
  have HC := Aside0.mk (impl_noteAt.calls A1 c1 l1 x.f0 (fidx (fun y => y.f0 == x.f0) l1) (W.alloc (.cells #[.int .i64 x.f0, .int .i64 x.f1, .int .i64 x.f2, .int .i64 x.f3, .int .i64 x.f4] 25)) (Kd.C_below hr1 (below_alloc (Below.refl _ _) _)) hc1 rfl)
  clear hr1 hc1
  generalize fidx (fun y => y.f0 == x.f0) l1 = q at HC
  show Calls Try.prog 73 #[.agg #[.int .i64 x.f0, .int .i64 x.f1, .int .i64 x.f2, .int .i64 x.f3, .int .i64 x.f4], .pointer (some ⟨B1, 0, none⟩)] W _
  go_enter Try.func73, Try.ntmps73
  go_wp2_with fail
  refine HC.out.mono ?_
  rintro e w' ⟨rfl, hb⟩
  have HB := Aside0.mk (below_step (below_alloc (Below.refl _ _) _) hb)
  clear hb HC
  go_wp2
  go_ret
  exact ⟨rfl, HB.out⟩
theorem impl_Unknown_1__slices_DeleteFunc_impl_Note.calls (P0_ : Nat → Prop) (u9000_ : Value) (l0 : List S25) (A1 : Option Addr) (c1 : Nat) (l1 : List S25) (B1 : Nat) (r : List S25) (w0 w : World) (hB : Below w0.heap.size w0 w) (ho0 : Kd.R k25 25 w w0.heap.size P0_ u9000_ l0)
    (hr1 : ∀ W', Kept w W' (fun k_ => P0_ k_) → Kd.C k25 W' A1 l1.length l1) (hc1 : l1.length ≤ c1) (hb1 : w.heap[B1]? = some (.cells #[.slice A1 l1.length c1] 31 (0, 0))) (h : impl_Unknown_1__slices_DeleteFunc_impl_Note.f l0 l1 = some r) :
    Calls Try.prog 71 #[u9000_, .func (.func 73) #[] #[.pointer (some ⟨B1, 0, none⟩)]] w fun e w' => ∃ v0_ : Value, e = .returned (v0_) ∧ Kd.R k25 25 w' w0.heap.size (fun k_ => (P0_ k_ ∨ w.heap.size ≤ k_)) v0_ r ∧ Below w0.heap.size w0 w' ∧ Kept w w' (fun k_ => P0_ k_) := by
  obtain rfl := Option.some.inj h
  have hr := Kd.R_types ho0 hb1 (by decide)
  refine (slices_DeleteFunc_impl_Note.callsFn (fun x => decide (fidx (fun y => y.f0 == x.f0) l1 ≥ 0)) _ _ (enters_ Try.func73 (by kernel_rfl) rfl) _ u9000_ l0 w0 w hB hr (fun W x hb hk =>
    impl_Unknown_1__slices_DeleteFunc_impl_Note.closure A1 c1 l1 B1 W x (hr1 W (hk.mono (fun k hk => hk.1))) hc1 (blk_kept hb1 hk (fun h => h.2 rfl)))).mono ?_
  rintro e w' ⟨v, rfl, h1, h2, h3⟩
  exact ⟨v, rfl, Kd.R_mono h1 (fun k hk => hk.elim (fun h => .inl h.1) .inr), h2, h3.mono (fun k hk => hk.1)⟩

end Go.Proofs.Ytppojihmllmgnaa.F

-- PRINTED by print.py (a twelfth state) out of the translation. Not trusted: Lean checks it.
import Derived.Test.YtppojihmllmgnaaF
namespace Go.Proofs.Ytppojihmllmgnaa.F
open Go.Proofs.Ytppojihmllmgnaa.Opn
open Go.RowKit Go.Proofs.YtppojihmllmgnaaW.PrintWords Go.Proofs.YtppojihmllmgnaaW.PrintLast
set_option linter.unusedVariables false
set_option linter.unusedSimpArgs false

/-! ### slices_IndexFunc_int_int: function 93 -/
set_option maxHeartbeats 2000000 in
set_option maxRecDepth 100000 in
theorem slices_IndexFunc_int_int.callsFnM (p : Int → Bool) (g : Nat) (lb : Array Value) (eg : ∀ args w, (callFunc g args).run Try.prog w = .ok (.enter g args) w) (A0 : Option Addr) (c0 : Nat) (l0 : List Int) (w : World) (hr0 : Kd.C (Kd.int .i64) w A0 l0.length l0)
  (hp : ∀ (W : World) (x : Int), x ∈ l0 → Below w.heap.size w W → Calls Try.prog g (#[.int .i64 x] ++ lb) W fun e w' => e = .returned (.bool (p x)) ∧ Below W.heap.size W w') :
  Calls Try.prog 93 #[.slice A0 l0.length c0, .func (.func g) #[] lb] w fun e w' => e = .returned (.int .i64 (fidx p l0)) ∧ Below w.heap.size w w' := by
 have hm := Kd.C_max hr0
 have HR0 := Aside0.mk hr0
 have HP := Aside0.mk hp
 clear hr0 hp
 go_enter Try.func93, Try.ntmps93
 go_wp2
 go_loopg [5, 8] l0.length (fun gg _ s8 wr => ∃ kk : Nat, kk ≤ l0.length ∧ l0.length - kk ≤ gg ∧ s8 = .int .i64 kk ∧ Aside0 (Below w.heap.size w wr) ∧ Aside0 (∀ j, j < kk → p (l0.getD j 0) = false))
 case atStart => exact ⟨0, Nat.zero_le _, by omega, rfl, ⟨Below.refl _ w⟩, ⟨fun j hj => absurd hj (Nat.not_lt_zero _)⟩⟩
 case round =>
  obtain ⟨kk, hkk, hg, rfl, BW, A⟩ := hrel
  by_cases hlt : kk < l0.length
  ·
   have hltz : (kk : Int) < (l0.length : Int) := by omega
   have d1 : decide ((kk : Int) < (l0.length : Int)) = true := decide_eq_true hltz
   have d2 : decide (kk < l0.length) = true := decide_eq_true hlt
   obtain ⟨ad, e, x0⟩ := Kd.at_int HR0.out kk (by omega) hltz
   subst e
   replace x0 := (BW.out.cell (World.block_lt_of_cell? w _ x0)).trans x0
   simp only [Int.toNat_natCast] at x0
   obtain ⟨y, hy⟩ : ∃ y, rd l0 kk = y := ⟨_, rfl⟩
   rw [hy] at x0
   have hcall := Aside0.mk (HP.out wr y (by rw [← show l0.getD kk 0 = y from by rw [← hy]; simp [rd]]; exact getD_mem l0 0 kk hlt) BW.out)
   have Y := Aside0.mk hy
   clear hy
   cases hq : p y with
   | true =>
    rw [hq] at hcall
    have Q := Aside0.mk hq
    clear hq
    go_wp2_with fail
    refine hcall.out.mono ?_
    rintro e w' ⟨rfl, hb0⟩
    have HB2 := Aside0.mk (below_step BW.out hb0)
    clear hb0 hcall
    go_wp2
    go_ret
    refine ⟨?_, HB2.out⟩
    rw [fidx_hit p l0 0 kk hlt (by rw [show l0.getD kk 0 = y from by rw [← Y.out]; simp [rd]]; exact Q.out) A.out]
    rfl
   | false =>
    rw [hq] at hcall
    have Q := Aside0.mk hq
    clear hq
    go_wp2_with fail
    refine hcall.out.mono ?_
    rintro e w' ⟨rfl, hb0⟩
    have HB2 := Aside0.mk (below_step BW.out hb0)
    clear hb0 hcall
    go_wp2
    go_roundg (l0.length - (kk + 1))
    case measure => omega
    case rel =>
     refine ⟨kk + 1, by omega, by omega, by go_num, HB2, ⟨fun j hj => ?_⟩⟩
     by_cases e : j = kk
     ·
      subst e
      rw [show l0.getD j 0 = y from by rw [← Y.out]; simp [rd]]; exact Q.out
     ·
      exact A.out j (by omega)
  ·
   have d1 : decide ((kk : Int) < (l0.length : Int)) = false := decide_eq_false (by omega)
   have d2 : decide (kk < l0.length) = false := decide_eq_false (by omega)
   go_wp2
   go_ret
   exact ⟨by rw [fidx_miss p l0 0 (fun j hj => A.out j (by omega))]; rfl, BW.out⟩
theorem slices_IndexFunc_int_int.callsFn (p : Int → Bool) (g : Nat) (lb : Array Value) (eg : ∀ args w, (callFunc g args).run Try.prog w = .ok (.enter g args) w) (A0 : Option Addr) (c0 : Nat) (l0 : List Int) (w : World) (hr0 : Kd.C (Kd.int .i64) w A0 l0.length l0)
  (hp : ∀ (W : World) (x : Int), Below w.heap.size w W → Calls Try.prog g (#[.int .i64 x] ++ lb) W fun e w' => e = .returned (.bool (p x)) ∧ Below W.heap.size W w') :
  Calls Try.prog 93 #[.slice A0 l0.length c0, .func (.func g) #[] lb] w fun e w' => e = .returned (.int .i64 (fidx p l0)) ∧ Below w.heap.size w w' :=
 slices_IndexFunc_int_int.callsFnM p g lb eg A0 c0 l0 w hr0 (fun W x _ hb => hp W x hb)

end Go.Proofs.Ytppojihmllmgnaa.F

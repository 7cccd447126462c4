-- PRINTED by print.py (a twelfth state) out of the translation. Not trusted: Lean checks it.
import Derived.Test.YtnldmnlfocigaaaF
namespace Go.Proofs.Ytnldmnlfocigaaa.F
open Go.Proofs.Ytnldmnlfocigaaa.Opn
open Go.RowKit Go.Proofs.YtnldmnlfocigaaaW.PrintWords Go.Proofs.YtnldmnlfocigaaaW.PrintLast
set_option linter.unusedVariables false
set_option linter.unusedSimpArgs false

/-! ### slices_IndexFunc_impl_Piece: function 76 -/
set_option maxHeartbeats 2000000 in
set_option maxRecDepth 100000 in
theorem slices_IndexFunc_impl_Piece.callsFnM (p : S80 → Bool) (g : Nat) (lb : Array Value) (eg : ∀ args w, (callFunc g args).run Try.prog w = .ok (.enter g args) w) (A0 : Option Addr) (c0 : Nat) (l0 : List S80) (w : World) (hr0 : Kd.C k80 w A0 l0.length l0)
    (hp : ∀ (W : World) (x : S80), x ∈ l0 → Below w.heap.size w W → Calls Try.prog g (#[.agg #[.int .i64 x.f0, .int .i64 x.f1, .int .i64 x.f2]] ++ lb) W fun e w' => e = .returned (.bool (p x)) ∧ Below W.heap.size W w') :
    Calls Try.prog 76 #[.slice A0 l0.length c0, .func (.func g) #[] lb] w fun e w' => e = .returned (.int .i64 (fidx p l0)) ∧ Below w.heap.size w w' := by
  have hu80 := Try.underlying80
  have hm := Kd.C_max hr0
  have HR0 := Aside0.mk hr0
  have HP := Aside0.mk hp
  clear hr0 hp
  go_enter Try.func76, Try.ntmps76
  go_wp2
  go_loopg [5, 8] l0.length (fun gg _ s8 wr => ∃ kk : Nat, kk ≤ l0.length ∧ l0.length - kk ≤ gg ∧ s8 = .int .i64 kk ∧ Aside0 (Below w.heap.size w wr) ∧ Aside0 (∀ j, j < kk → p (l0.getD j z80) = false))
  case atStart => exact ⟨0, Nat.zero_le _, by omega, rfl, ⟨Below.refl _ w⟩, ⟨fun j hj => absurd hj (Nat.not_lt_zero _)⟩⟩
  case round =>
    obtain ⟨kk, hkk, hg, rfl, BW, A⟩ := hrel
    by_cases hlt : kk < l0.length
    · have hltz : (kk : Int) < (l0.length : Int) := by omega
      have d1 : decide ((kk : Int) < (l0.length : Int)) = true := decide_eq_true hltz
      have d2 : decide (kk < l0.length) = true := decide_eq_true hlt
      obtain ⟨ad, e, x0, x1, x2⟩ := at_T80 HR0.out kk (by omega) hltz
      subst e
      replace x0 := (BW.out.cell (World.block_lt_of_cell? w _ x0)).trans x0
      replace x1 := (BW.out.cell (World.block_lt_of_cell? w _ x1)).trans x1
      replace x2 := (BW.out.cell (World.block_lt_of_cell? w _ x2)).trans x2
      simp only [Int.toNat_natCast] at x0 x1 x2
      obtain ⟨y, hy⟩ : ∃ y, rd_T80 l0 kk = y := ⟨_, rfl⟩
      rw [hy] at x0 x1 x2
      have hcall := Aside0.mk (HP.out wr y (by rw [← show l0.getD kk z80 = y from by rw [← hy]; simp [rd_T80]]; exact getD_mem l0 z80 kk hlt) BW.out)
      have Y := Aside0.mk hy
      clear hy
      cases hq : p y with
      | true =>
        rw [hq] at hcall
        have Q := Aside0.mk hq
        clear hq
        go_wp2_with fail
        refine hcall.out.mono ?_
        rintro e w' ⟨rfl, hb0⟩
        have HB2 := Aside0.mk (below_step BW.out hb0)
        clear hb0 hcall
        go_wp2
        go_ret
        refine ⟨?_, HB2.out⟩
        rw [fidx_hit p l0 z80 kk hlt (by rw [show l0.getD kk z80 = y from by rw [← Y.out]; simp [rd_T80]]; exact Q.out) A.out]
        rfl
      | false =>
        rw [hq] at hcall
        have Q := Aside0.mk hq
        clear hq
        go_wp2_with fail
        refine hcall.out.mono ?_
        rintro e w' ⟨rfl, hb0⟩
        have HB2 := Aside0.mk (below_step BW.out hb0)
        clear hb0 hcall
        go_wp2
        go_roundg (l0.length - (kk + 1))
        case measure => omega
        case rel =>
          refine ⟨kk + 1, by omega, by omega, by go_num, HB2, ⟨fun j hj => ?_⟩⟩
          by_cases e : j = kk
          · subst e
            rw [show l0.getD j z80 = y from by rw [← Y.out]; simp [rd_T80]]; exact Q.out
          · exact A.out j (by omega)
    · have d1 : decide ((kk : Int) < (l0.length : Int)) = false := decide_eq_false (by omega)
      have d2 : decide (kk < l0.length) = false := decide_eq_false (by omega)
      go_wp2
      go_ret
      exact ⟨by rw [fidx_miss p l0 z80 (fun j hj => A.out j (by omega))]; rfl, BW.out⟩
theorem slices_IndexFunc_impl_Piece.callsFn (p : S80 → Bool) (g : Nat) (lb : Array Value) (eg : ∀ args w, (callFunc g args).run Try.prog w = .ok (.enter g args) w) (A0 : Option Addr) (c0 : Nat) (l0 : List S80) (w : World) (hr0 : Kd.C k80 w A0 l0.length l0)
    (hp : ∀ (W : World) (x : S80), Below w.heap.size w W → Calls Try.prog g (#[.agg #[.int .i64 x.f0, .int .i64 x.f1, .int .i64 x.f2]] ++ lb) W fun e w' => e = .returned (.bool (p x)) ∧ Below W.heap.size W w') :
    Calls Try.prog 76 #[.slice A0 l0.length c0, .func (.func g) #[] lb] w fun e w' => e = .returned (.int .i64 (fidx p l0)) ∧ Below w.heap.size w w' :=
  slices_IndexFunc_impl_Piece.callsFnM p g lb eg A0 c0 l0 w hr0 (fun W x _ hb => hp W x hb)

end Go.Proofs.Ytnldmnlfocigaaa.F

-- PRINTED by print.py (a twelfth state) out of the translation. Not trusted: Lean checks it.
import Derived.Test.YtnldmnlfocigaaaF
namespace Go.Proofs.Ytnldmnlfocigaaa.F
open Go.Proofs.Ytnldmnlfocigaaa.Opn
open Go.RowKit Go.Proofs.YtnldmnlfocigaaaW.PrintWords Go.Proofs.YtnldmnlfocigaaaW.PrintLast
set_option linter.unusedVariables false
set_option linter.unusedSimpArgs false

/-! ### slices_IndexFunc_impl_Box: function 81 -/
set_option maxHeartbeats 2000000 in
set_option maxRecDepth 100000 in
theorem slices_IndexFunc_impl_Box.callsFn (p : S62 → Bool) (g : Nat) (lb : Array Value) (eg : ∀ args w, (callFunc g args).run Try.prog w = .ok (.enter g args) w) (A0 : Option Addr) (c0 : Nat) (l0 : List S62) (w : World) (hr0 : Kd.C k62 w A0 l0.length l0)
    (hp : ∀ (W : World) (x : S62) (A2 : Option Addr) (c2 : Nat), Below w.heap.size w W → Calls Try.prog g (#[.agg #[.int .i64 x.f0, .int .i64 x.f1, .slice A2 x.f2.length c2]] ++ lb) W fun e w' => e = .returned (.bool (p x)) ∧ Below W.heap.size W w') :
    Calls Try.prog 81 #[.slice A0 l0.length c0, .func (.func g) #[] lb] w fun e w' => e = .returned (.int .i64 (fidx p l0)) ∧ Below w.heap.size w w' := by
  have hu62 := Try.underlying62
  have hm := Kd.C_max hr0
  have HR0 := Aside0.mk hr0
  have HP := Aside0.mk hp
  clear hr0 hp
  go_enter Try.func81, Try.ntmps81
  go_wp2
  go_loopg [5, 8] l0.length (fun gg _ s8 wr => ∃ kk : Nat, kk ≤ l0.length ∧ l0.length - kk ≤ gg ∧ s8 = .int .i64 kk ∧ Aside0 (Below w.heap.size w wr) ∧ Aside0 (∀ j, j < kk → p (l0.getD j z62) = false))
  case atStart => exact ⟨0, Nat.zero_le _, by omega, rfl, ⟨Below.refl _ w⟩, ⟨fun j hj => absurd hj (Nat.not_lt_zero _)⟩⟩
  case round =>
    obtain ⟨kk, hkk, hg, rfl, BW, A⟩ := hrel
    by_cases hlt : kk < l0.length
    · have hltz : (kk : Int) < (l0.length : Int) := by omega
      have d1 : decide ((kk : Int) < (l0.length : Int)) = true := decide_eq_true hltz
      have d2 : decide (kk < l0.length) = true := decide_eq_true hlt
      obtain ⟨ad, A2, c2, e, x0, x1, x2, hl2, hi2⟩ := at_T62 HR0.out kk (by omega) hltz
      subst e
      clear hl2 hi2
      replace x0 := (BW.out.cell (World.block_lt_of_cell? w _ x0)).trans x0
      replace x1 := (BW.out.cell (World.block_lt_of_cell? w _ x1)).trans x1
      replace x2 := (BW.out.cell (World.block_lt_of_cell? w _ x2)).trans x2
      simp only [Int.toNat_natCast] at x0 x1 x2
      obtain ⟨y, hy⟩ : ∃ y, rd_T62 l0 (kk : Int) = y := ⟨_, rfl⟩
      rw [hy] at x0 x1 x2
      have hcall := Aside0.mk (HP.out wr y A2 c2 BW.out)
      have Y := Aside0.mk hy
      clear hy
      have HD : l0.getD kk z62 = y := by rw [← Y.out]; simp [rd_T62]
      have HD2 := Aside0.mk HD
      clear HD
      cases hq : p y with
      | true =>
        rw [hq] at hcall
        have Q := Aside0.mk hq
        clear hq
        go_wp2_with fail
        refine hcall.out.mono ?_
        rintro e w' ⟨rfl, hb0⟩
        have HB2 := Aside0.mk (below_step BW.out hb0)
        clear hb0 hcall
        go_wp2
        go_ret
        refine ⟨?_, HB2.out⟩
        rw [fidx_hit p l0 z62 kk hlt (by rw [HD2.out]; exact Q.out) A.out]
        rfl
      | false =>
        rw [hq] at hcall
        have Q := Aside0.mk hq
        clear hq
        go_wp2_with fail
        refine hcall.out.mono ?_
        rintro e w' ⟨rfl, hb0⟩
        have HB2 := Aside0.mk (below_step BW.out hb0)
        clear hb0 hcall
        go_wp2
        go_roundg (l0.length - (kk + 1))
        case measure => omega
        case rel =>
          refine ⟨kk + 1, by omega, by omega, by go_num, HB2, ⟨fun j hj => ?_⟩⟩
          by_cases e : j = kk
          · subst e
            rw [HD2.out]; exact Q.out
          · exact A.out j (by omega)
    · have d1 : decide ((kk : Int) < (l0.length : Int)) = false := decide_eq_false (by omega)
      have d2 : decide (kk < l0.length) = false := decide_eq_false (by omega)
      go_wp2
      go_ret
      exact ⟨by rw [fidx_miss p l0 z62 (fun j hj => A.out j (by omega))]; rfl, BW.out⟩

end Go.Proofs.Ytnldmnlfocigaaa.F

-- PRINTED by print.py (a twelfth state) out of the translation. Not trusted: Lean checks it.
import Derived.Test.YtnldmnlfocigaaaF
import Derived.Test.YtnldmnlfocigaaaF84
namespace Go.Proofs.Ytnldmnlfocigaaa.F
open Go.Proofs.Ytnldmnlfocigaaa.Opn
open Go.RowKit Go.Proofs.YtnldmnlfocigaaaW.PrintWords Go.Proofs.YtnldmnlfocigaaaW.PrintLast
set_option linter.unusedVariables false
set_option linter.unusedSimpArgs false

/-! ### laws_heldBoxS: function 49 -/
def laws_heldBoxS.l0 : Nat → List (S62) → Int → Int → Option (Int)
  | 0, _, _, _ => none
  | k + 1, x0, x1, x5 => if x5 < (x0.length : Int) then (if 0 ≤ x5 then (if ((rd_T62 x0 x5).f0) = x1 then (if ((rd_T62 x0 x5).f1) = (wrap64 (x1 + 1)) then ((laws_heldIntS.f k ((rd_T62 x0 x5).f2) (wrap64 ((wrap64 (x1 + 1)) + 1))).bind fun t788 => (if t788 < 0 then (some (-1)) else (laws_heldBoxS.l0 k x0 t788 (wrap64 (x5 + 1))))) else (some (-1))) else (some (-1))) else (none)) else (some x1)
def laws_heldBoxS.f (k : Nat) (l0 : List (S62)) (a1 : Int) : Option (Int) := laws_heldBoxS.l0 k l0 a1 0
theorem laws_heldBoxS.mono_l : ∀ k, (∀ y0 y1 y2, LeO (laws_heldBoxS.l0 k y0 y1 y2) (laws_heldBoxS.l0 (k + 1) y0 y1 y2))
  | 0 => fun _ _ _ r h => by simp [laws_heldBoxS.l0] at h
  | k + 1 => by
    have ih0 := laws_heldBoxS.mono_l k
    · intro y0 y1 y2
      unfold laws_heldBoxS.l0
      repeat' first
      | (with_reducible exact ih0 _ _ _)
      | (with_reducible exact laws_heldIntS.mono _ _ _)
      | (with_reducible exact LeO.refl _)
      | (with_reducible exact LeO.none _)
      | (with_reducible refine LeO.ite ?_ ?_)
      | (with_reducible refine LeO.bind ?_ (fun _ => ?_))
      | exact ih0 _ _ _
      | exact laws_heldIntS.mono _ _ _
      | exact LeO.none _
      | refine LeO.ite ?_ ?_
      | refine LeO.bind ?_ (fun _ => ?_)
theorem laws_heldBoxS.mono : ∀ a0 a1 k, LeO (laws_heldBoxS.f k a0 a1) (laws_heldBoxS.f (k + 1) a0 a1) := by
  intro a0 a1 k
  have ih0 := laws_heldBoxS.mono_l k
  unfold laws_heldBoxS.f
  repeat' first
      | (with_reducible exact ih0 _ _ _)
      | (with_reducible exact laws_heldIntS.mono _ _ _)
      | (with_reducible exact LeO.refl _)
      | (with_reducible exact LeO.none _)
      | (with_reducible refine LeO.ite ?_ ?_)
      | (with_reducible refine LeO.bind ?_ (fun _ => ?_))
      | exact ih0 _ _ _
      | exact laws_heldIntS.mono _ _ _
      | exact LeO.none _
      | refine LeO.ite ?_ ?_
      | refine LeO.bind ?_ (fun _ => ?_)
set_option maxHeartbeats 8000000 in
set_option maxRecDepth 100000 in
theorem laws_heldBoxS.calls (k : Nat) (A0 : Option Addr) (c0 : Nat) (l0 : List (S62)) (a1 : Int) (r : Int) (w : World) (hr0 : Kd.C k62 w A0 l0.length l0) (hc0 : l0.length ≤ c0) (h : laws_heldBoxS.f k l0 a1 = some r) :
    Calls Try.prog 49 #[.slice A0 l0.length c0, .int .i64 a1] w fun e w' => e = .returned (.int .i64 r) ∧ Drawn0 w w' := by
  have HR0 := Aside0.mk hr0
  have HC0 := Aside0.mk hc0
  clear hr0 hc0
  have H : (laws_heldBoxS.l0 k l0 a1 0) = some r := h
  clear h
  have H' := Aside0.mk H
  clear H
  go_enter Try.func49, Try.ntmps49
  go_wp2
  go_loopg [1, 5] k (fun kq v1 v5 w' => ∃ (x1_1 : Int) (x5_1 : Int), v1 = .int .i64 x1_1 ∧ v5 = .int .i64 x5_1 ∧ Aside0 (laws_heldBoxS.l0 kq l0 x1_1 x5_1 = some r) ∧ Aside0 (kq ≤ k) ∧ Drawn0 w w')
  case atStart => exact ⟨(a1), (0), (by first | rfl | (simp; done) | (simp [*]; done)), (by first | rfl | (simp; done) | (simp [*]; done)), H', ⟨Nat.le_refl _⟩, by repeat (first | exact Drawn0.refl _ | apply Drawn0.step)⟩
  case round =>
    clear H'
    try clear p2
    obtain ⟨x1_1, x5_1, rfl, rfl, HA, HK1, ⟨m1, rfl⟩⟩ := hrel
    cases gk with
    | zero => exact absurd HA.out (by simp [laws_heldBoxS.l0])
    | succ k1 =>
      have H := HA.out
      clear HA
      simp only [laws_heldBoxS.l0] at H
      by_cases c3 : x5_1 < (l0.length : Int)
      · rw [if_pos c3] at H
        have c3b0 : decide (x5_1 < (l0.length : Int)) = true := decide_eq_true c3
        clear c3
        by_cases c4 : 0 ≤ x5_1
        · rw [if_pos c4] at H
          have c4b0 : decide (0 ≤ x5_1) = true := decide_eq_true c4
          clear c4
          by_cases c5 : ((rd_T62 l0 x5_1).f0) = x1_1
          · rw [if_pos c5] at H
            have c5b0 : (((rd_T62 l0 x5_1).f0) == x1_1) = true := beq_iff_eq.mpr c5
            have c5b1 : (((rd_T62 l0 x5_1).f0) != x1_1) = false := bne_eq_false_iff_eq.mpr c5
            clear c5
            by_cases c6 : ((rd_T62 l0 x5_1).f1) = (wrap64 (x1_1 + 1))
            · rw [if_pos c6] at H
              have c6b0 : (((rd_T62 l0 x5_1).f1) == (wrap64 (x1_1 + 1))) = true := beq_iff_eq.mpr c6
              have c6b1 : (((rd_T62 l0 x5_1).f1) != (wrap64 (x1_1 + 1))) = false := bne_eq_false_iff_eq.mpr c6
              clear c6
              replace H := Option.bind_eq_some_iff.mp H
              obtain ⟨t788, A70, H⟩ := H
              replace H : (if t788 < 0 then (some (-1)) else (laws_heldBoxS.l0 k1 l0 t788 (wrap64 (x5_1 + 1)))) = some r := H
              have A7 := Aside0.mk A70
              clear A70
              by_cases c8 : t788 < 0
              · rw [if_pos c8] at H
                have c8b0 : decide (t788 < 0) = true := decide_eq_true c8
                clear c8
                obtain rfl := Option.some.inj H
                have p785 : 0 ≤ (x5_1 : Int) := of_decide_eq_true (by first | (with_reducible assumption) | assumption)
                have q785 : x5_1 < (l0.length : Int) := of_decide_eq_true (by first | (with_reducible assumption) | assumption)
                obtain ⟨ad785, A785_2, c785_2, e785, hx785_0, hx785_1, hx785_2, hl785_2, hi785_2⟩ := at_T62 HR0.out x5_1 p785 q785
                cases e785
                have HR785_2 := Aside0.mk hi785_2
                have HC785_2 := Aside0.mk hl785_2
                clear hi785_2 hl785_2
                replace p785 := eq_true p785
                replace q785 := eq_true q785
                have p786 : 0 ≤ (x5_1 : Int) := of_decide_eq_true (by first | (with_reducible assumption) | assumption)
                have q786 : x5_1 < (l0.length : Int) := of_decide_eq_true (by first | (with_reducible assumption) | assumption)
                obtain ⟨ad786, A786_2, c786_2, e786, hx786_0, hx786_1, hx786_2, hl786_2, hi786_2⟩ := at_T62 HR0.out x5_1 p786 q786
                obtain rfl : ad785 = ad786 := (by injection e786)
                have HR786_2 := Aside0.mk hi786_2
                have HC786_2 := Aside0.mk hl786_2
                clear hi786_2 hl786_2
                replace p786 := eq_true p786
                replace q786 := eq_true q786
                have ea_ := Option.some.inj (hx785_2.symm.trans hx786_2)
                injection ea_ with ea_ en_ ec_
                subst ea_
                subst ec_
                clear en_
                have p787 : 0 ≤ (x5_1 : Int) := of_decide_eq_true (by first | (with_reducible assumption) | assumption)
                have q787 : x5_1 < (l0.length : Int) := of_decide_eq_true (by first | (with_reducible assumption) | assumption)
                obtain ⟨ad787, A787_2, c787_2, e787, hx787_0, hx787_1, hx787_2, hl787_2, hi787_2⟩ := at_T62 HR0.out x5_1 p787 q787
                obtain rfl : ad785 = ad787 := (by injection e787)
                have HR787_2 := Aside0.mk hi787_2
                have HC787_2 := Aside0.mk hl787_2
                clear hi787_2 hl787_2
                replace p787 := eq_true p787
                replace q787 := eq_true q787
                have ea_ := Option.some.inj (hx785_2.symm.trans hx787_2)
                injection ea_ with ea_ en_ ec_
                subst ea_
                subst ec_
                clear en_
                go_wp2_with (first | ((with_reducible refine gate_callee (f := 84) rfl ?_); refine goesL_ (some 36) rfl rfl Try.func84 (by kernel_rfl) rfl #[.slice A785_2 ((rd_T62 l0 x5_1).f2).length c785_2, .int .i64 (wrap64 ((wrap64 (x1_1 + 1)) + 1))] rfl (by (try simp only [List.map_toArray, List.map_cons, List.map_nil]); first | done | rfl | (simp only [List.length_drop, List.length_take]; rfl)) ?_; (with_reducible refine (laws_heldIntS.calls k1 _ _ ((rd_T62 l0 x5_1).f2) (wrap64 ((wrap64 (x1_1 + 1)) + 1)) t788 _ ?side1 ?side2 A7.out).mono ?_); (case side1 => repeat (first | exact HR787_2.out | (with_reducible refine Kd.C_alloc ?_ _) | (with_reducible refine Kd.C_drewN ?_ _) | (with_reducible refine Kd.C_drew ?_))); (case side2 => exact HC787_2.out); rintro e w' ⟨rfl, ⟨nd, rfl⟩⟩; refine ⟨_, rfl, ?_⟩))
                go_ret
                exact ⟨by first | rfl | (simp; done) | (simp [*]; done), by repeat (first | exact Drawn0.refl _ | apply Drawn0.step)⟩
              · rw [if_neg c8] at H
                have c8b0 : decide (t788 < 0) = false := decide_eq_false c8
                clear c8
                have H' := Aside0.mk H
                clear H
                have p785 : 0 ≤ (x5_1 : Int) := of_decide_eq_true (by first | (with_reducible assumption) | assumption)
                have q785 : x5_1 < (l0.length : Int) := of_decide_eq_true (by first | (with_reducible assumption) | assumption)
                obtain ⟨ad785, A785_2, c785_2, e785, hx785_0, hx785_1, hx785_2, hl785_2, hi785_2⟩ := at_T62 HR0.out x5_1 p785 q785
                cases e785
                have HR785_2 := Aside0.mk hi785_2
                have HC785_2 := Aside0.mk hl785_2
                clear hi785_2 hl785_2
                replace p785 := eq_true p785
                replace q785 := eq_true q785
                have p786 : 0 ≤ (x5_1 : Int) := of_decide_eq_true (by first | (with_reducible assumption) | assumption)
                have q786 : x5_1 < (l0.length : Int) := of_decide_eq_true (by first | (with_reducible assumption) | assumption)
                obtain ⟨ad786, A786_2, c786_2, e786, hx786_0, hx786_1, hx786_2, hl786_2, hi786_2⟩ := at_T62 HR0.out x5_1 p786 q786
                obtain rfl : ad785 = ad786 := (by injection e786)
                have HR786_2 := Aside0.mk hi786_2
                have HC786_2 := Aside0.mk hl786_2
                clear hi786_2 hl786_2
                replace p786 := eq_true p786
                replace q786 := eq_true q786
                have ea_ := Option.some.inj (hx785_2.symm.trans hx786_2)
                injection ea_ with ea_ en_ ec_
                subst ea_
                subst ec_
                clear en_
                have p787 : 0 ≤ (x5_1 : Int) := of_decide_eq_true (by first | (with_reducible assumption) | assumption)
                have q787 : x5_1 < (l0.length : Int) := of_decide_eq_true (by first | (with_reducible assumption) | assumption)
                obtain ⟨ad787, A787_2, c787_2, e787, hx787_0, hx787_1, hx787_2, hl787_2, hi787_2⟩ := at_T62 HR0.out x5_1 p787 q787
                obtain rfl : ad785 = ad787 := (by injection e787)
                have HR787_2 := Aside0.mk hi787_2
                have HC787_2 := Aside0.mk hl787_2
                clear hi787_2 hl787_2
                replace p787 := eq_true p787
                replace q787 := eq_true q787
                have ea_ := Option.some.inj (hx785_2.symm.trans hx787_2)
                injection ea_ with ea_ en_ ec_
                subst ea_
                subst ec_
                clear en_
                go_wp2_with (first | ((with_reducible refine gate_callee (f := 84) rfl ?_); refine goesL_ (some 36) rfl rfl Try.func84 (by kernel_rfl) rfl #[.slice A785_2 ((rd_T62 l0 x5_1).f2).length c785_2, .int .i64 (wrap64 ((wrap64 (x1_1 + 1)) + 1))] rfl (by (try simp only [List.map_toArray, List.map_cons, List.map_nil]); first | done | rfl | (simp only [List.length_drop, List.length_take]; rfl)) ?_; (with_reducible refine (laws_heldIntS.calls k1 _ _ ((rd_T62 l0 x5_1).f2) (wrap64 ((wrap64 (x1_1 + 1)) + 1)) t788 _ ?side1 ?side2 A7.out).mono ?_); (case side1 => repeat (first | exact HR787_2.out | (with_reducible refine Kd.C_alloc ?_ _) | (with_reducible refine Kd.C_drewN ?_ _) | (with_reducible refine Kd.C_drew ?_))); (case side2 => exact HC787_2.out); rintro e w' ⟨rfl, ⟨nd, rfl⟩⟩; refine ⟨_, rfl, ?_⟩))
                go_roundg k1
                case measure => have := HK1.out; omega
                case rel => exact ⟨(t788), (wrap64 (x5_1 + 1)), (by first | rfl | (simp; done) | (simp [*]; done)), (by first | rfl | (simp; done) | (simp [*]; done)), H', ⟨by have := HK1.out; omega⟩, by repeat (first | exact Drawn0.refl _ | apply Drawn0.step)⟩
            · rw [if_neg c6] at H
              have c6b0 : (((rd_T62 l0 x5_1).f1) == (wrap64 (x1_1 + 1))) = false := beq_eq_false_iff_ne.mpr c6
              have c6b1 : (((rd_T62 l0 x5_1).f1) != (wrap64 (x1_1 + 1))) = true := bne_iff_ne.mpr c6
              obtain rfl := Option.some.inj H
              have p785 : 0 ≤ (x5_1 : Int) := of_decide_eq_true (by first | (with_reducible assumption) | assumption)
              have q785 : x5_1 < (l0.length : Int) := of_decide_eq_true (by first | (with_reducible assumption) | assumption)
              obtain ⟨ad785, A785_2, c785_2, e785, hx785_0, hx785_1, hx785_2, hl785_2, hi785_2⟩ := at_T62 HR0.out x5_1 p785 q785
              cases e785
              have HR785_2 := Aside0.mk hi785_2
              have HC785_2 := Aside0.mk hl785_2
              clear hi785_2 hl785_2
              replace p785 := eq_true p785
              replace q785 := eq_true q785
              have p786 : 0 ≤ (x5_1 : Int) := of_decide_eq_true (by first | (with_reducible assumption) | assumption)
              have q786 : x5_1 < (l0.length : Int) := of_decide_eq_true (by first | (with_reducible assumption) | assumption)
              obtain ⟨ad786, A786_2, c786_2, e786, hx786_0, hx786_1, hx786_2, hl786_2, hi786_2⟩ := at_T62 HR0.out x5_1 p786 q786
              obtain rfl : ad785 = ad786 := (by injection e786)
              have HR786_2 := Aside0.mk hi786_2
              have HC786_2 := Aside0.mk hl786_2
              clear hi786_2 hl786_2
              replace p786 := eq_true p786
              replace q786 := eq_true q786
              have ea_ := Option.some.inj (hx785_2.symm.trans hx786_2)
              injection ea_ with ea_ en_ ec_
              subst ea_
              subst ec_
              clear en_
              go_wp2
              go_ret
              exact ⟨by first | rfl | (simp; done) | (simp [*]; done), by repeat (first | exact Drawn0.refl _ | apply Drawn0.step)⟩
          · rw [if_neg c5] at H
            have c5b0 : (((rd_T62 l0 x5_1).f0) == x1_1) = false := beq_eq_false_iff_ne.mpr c5
            have c5b1 : (((rd_T62 l0 x5_1).f0) != x1_1) = true := bne_iff_ne.mpr c5
            obtain rfl := Option.some.inj H
            have p785 : 0 ≤ (x5_1 : Int) := of_decide_eq_true (by first | (with_reducible assumption) | assumption)
            have q785 : x5_1 < (l0.length : Int) := of_decide_eq_true (by first | (with_reducible assumption) | assumption)
            obtain ⟨ad785, A785_2, c785_2, e785, hx785_0, hx785_1, hx785_2, hl785_2, hi785_2⟩ := at_T62 HR0.out x5_1 p785 q785
            cases e785
            have HR785_2 := Aside0.mk hi785_2
            have HC785_2 := Aside0.mk hl785_2
            clear hi785_2 hl785_2
            replace p785 := eq_true p785
            replace q785 := eq_true q785
            go_wp2
            go_ret
            exact ⟨by first | rfl | (simp; done) | (simp [*]; done), by repeat (first | exact Drawn0.refl _ | apply Drawn0.step)⟩
        · rw [if_neg c4] at H
          exact absurd H (by simp)
      · rw [if_neg c3] at H
        have c3b0 : decide (x5_1 < (l0.length : Int)) = false := decide_eq_false c3
        clear c3
        obtain rfl := Option.some.inj H
        go_wp2
        go_ret
        exact ⟨by first | rfl | (simp; done) | (simp [*]; done), by repeat (first | exact Drawn0.refl _ | apply Drawn0.step)⟩

end Go.Proofs.Ytnldmnlfocigaaa.F

-- PRINTED by print.py (a twelfth state) out of the translation. Not trusted: Lean checks it.
import Derived.Test.YtnldmnlfocigaaaF
import Derived.Test.YtnldmnlfocigaaaF59
namespace Go.Proofs.Ytnldmnlfocigaaa.F
open Go.Proofs.Ytnldmnlfocigaaa.Opn
open Go.RowKit Go.Proofs.YtnldmnlfocigaaaW.PrintWords Go.Proofs.YtnldmnlfocigaaaW.PrintLast
set_option linter.unusedVariables false
set_option linter.unusedSimpArgs false

theorem zf33_1 {p : Prop} (h : p := by first | rfl | (simp; done) | (simp [*]; done)) : p := h
theorem zf33_0 {p : Prop} (h : p := by first | (with_reducible assumption) | assumption) : p := h
/-! ### spec_PiecesOk: function 33 -/
mutual
def spec_PiecesOk.l0 : Nat → List (S80) → Int → Option (Bool)
  | 0, _, _ => none
  | k + 1, x0, x3 => if x3 < (x0.length : Int) then (if 0 ≤ x3 then (if ((rd_T80 x0 x3).f0) < 1 then (spec_PiecesOk.j1 k x0 x3 true) else ((spec_l01In.f ((rd_T80 x0 x3).f1) 1 60).bind fun t338 => (if t338 = true then ((spec_l01In.f ((rd_T80 x0 x3).f2) 0 5).bind fun t340 => (spec_PiecesOk.j1 k x0 x3 (!t340))) else (spec_PiecesOk.j1 k x0 x3 true)))) else (none)) else (some true)
def spec_PiecesOk.j1 : Nat → List (S80) → Int → Bool → Option (Bool)
  | 0, _, _, _ => none
  | k + 1, x0, x3, x37 => if x37 = true then (some false) else (spec_PiecesOk.l1 k x0 x3 0)
def spec_PiecesOk.l1 : Nat → List (S80) → Int → Int → Option (Bool)
  | 0, _, _, _ => none
  | k + 1, x0, x3, x4 => if x4 < x3 then (if 0 ≤ x4 then (if x4 < (x0.length : Int) then (if 0 ≤ x3 then (if x3 < (x0.length : Int) then (if ((rd_T80 x0 x4).f0) = ((rd_T80 x0 x3).f0) then (some false) else (spec_PiecesOk.l1 k x0 x3 (wrap64 (x4 + 1)))) else (none)) else (none)) else (none)) else (none)) else (spec_PiecesOk.l0 k x0 (wrap64 (x3 + 1)))
end
def spec_PiecesOk.f (k : Nat) (l0 : List (S80)) : Option (Bool) := if (l0.length : Int) > 40 then (some false) else (spec_PiecesOk.l0 k l0 0)
theorem spec_PiecesOk.mono_l : ∀ k, (∀ y0 y1, LeO (spec_PiecesOk.l0 k y0 y1) (spec_PiecesOk.l0 (k + 1) y0 y1)) ∧ (∀ y0 y1 y2, LeO (spec_PiecesOk.j1 k y0 y1 y2) (spec_PiecesOk.j1 (k + 1) y0 y1 y2)) ∧ (∀ y0 y1 y2, LeO (spec_PiecesOk.l1 k y0 y1 y2) (spec_PiecesOk.l1 (k + 1) y0 y1 y2))
  | 0 => ⟨fun _ _ r h => by simp [spec_PiecesOk.l0] at h, fun _ _ _ r h => by simp [spec_PiecesOk.j1] at h, fun _ _ _ r h => by simp [spec_PiecesOk.l1] at h⟩
  | k + 1 => by
    obtain ⟨ih0, ih1, ih2⟩ := spec_PiecesOk.mono_l k
    refine ⟨?_, ?_, ?_⟩
    · intro y0 y1
      unfold spec_PiecesOk.l0
      repeat' first
      | (with_reducible exact ih0 _ _)
      | (with_reducible exact ih1 _ _ _)
      | (with_reducible exact ih2 _ _ _)
      | (with_reducible exact LeO.refl _)
      | (with_reducible exact LeO.none _)
      | (with_reducible refine LeO.ite ?_ ?_)
      | (with_reducible refine LeO.bind ?_ (fun _ => ?_))
      | exact ih0 _ _
      | exact ih1 _ _ _
      | exact ih2 _ _ _
      | exact LeO.none _
      | refine LeO.ite ?_ ?_
      | refine LeO.bind ?_ (fun _ => ?_)
    · intro y0 y1 y2
      unfold spec_PiecesOk.j1
      repeat' first
      | (with_reducible exact ih0 _ _)
      | (with_reducible exact ih1 _ _ _)
      | (with_reducible exact ih2 _ _ _)
      | (with_reducible exact LeO.refl _)
      | (with_reducible exact LeO.none _)
      | (with_reducible refine LeO.ite ?_ ?_)
      | (with_reducible refine LeO.bind ?_ (fun _ => ?_))
      | exact ih0 _ _
      | exact ih1 _ _ _
      | exact ih2 _ _ _
      | exact LeO.none _
      | refine LeO.ite ?_ ?_
      | refine LeO.bind ?_ (fun _ => ?_)
    · intro y0 y1 y2
      unfold spec_PiecesOk.l1
      repeat' first
      | (with_reducible exact ih0 _ _)
      | (with_reducible exact ih1 _ _ _)
      | (with_reducible exact ih2 _ _ _)
      | (with_reducible exact LeO.refl _)
      | (with_reducible exact LeO.none _)
      | (with_reducible refine LeO.ite ?_ ?_)
      | (with_reducible refine LeO.bind ?_ (fun _ => ?_))
      | exact ih0 _ _
      | exact ih1 _ _ _
      | exact ih2 _ _ _
      | exact LeO.none _
      | refine LeO.ite ?_ ?_
      | refine LeO.bind ?_ (fun _ => ?_)
theorem spec_PiecesOk.mono : ∀ a0 k, LeO (spec_PiecesOk.f k a0) (spec_PiecesOk.f (k + 1) a0) := by
  intro a0 k
  obtain ⟨ih0, ih1, ih2⟩ := spec_PiecesOk.mono_l k
  unfold spec_PiecesOk.f
  repeat' first
      | (with_reducible exact ih0 _ _)
      | (with_reducible exact ih1 _ _ _)
      | (with_reducible exact ih2 _ _ _)
      | (with_reducible exact LeO.refl _)
      | (with_reducible exact LeO.none _)
      | (with_reducible refine LeO.ite ?_ ?_)
      | (with_reducible refine LeO.bind ?_ (fun _ => ?_))
      | exact ih0 _ _
      | exact ih1 _ _ _
      | exact ih2 _ _ _
      | exact LeO.none _
      | refine LeO.ite ?_ ?_
      | refine LeO.bind ?_ (fun _ => ?_)
set_option maxHeartbeats 8000000 in
set_option maxRecDepth 100000 in
theorem spec_PiecesOk.calls (k : Nat) (A0 : Option Addr) (c0 : Nat) (l0 : List (S80)) (r : Bool) (w : World) (hr0 : Kd.C k80 w A0 l0.length l0) (hc0 : l0.length ≤ c0) (h : spec_PiecesOk.f k l0 = some r) :
    Calls Try.prog 33 #[.slice A0 l0.length c0] w fun e w' => e = .returned (.bool r) ∧ Drawn0 w w' := by
  have HR0 := Aside0.mk hr0
  have HC0 := Aside0.mk hc0
  clear hr0 hc0
  have H : (if (l0.length : Int) > 40 then (some false) else (spec_PiecesOk.l0 k l0 0)) = some r := h
  clear h
  by_cases c2 : (l0.length : Int) > 40
  · rw [if_pos c2] at H
    have c2b0 : decide (40 < (l0.length : Int)) = true := decide_eq_true c2
    have c2b1 : decide (40 < l0.length) = true := decide_eq_true (by omega)
    clear c2
    obtain rfl := Option.some.inj H
    go_enter Try.func33, Try.ntmps33
    go_wp2
    go_ret
    exact ⟨by first | rfl | (simp; done) | (simp [*]; done), by repeat (first | exact Drawn0.refl _ | apply Drawn0.step)⟩
  · rw [if_neg c2] at H
    have c2b0 : decide (40 < (l0.length : Int)) = false := decide_eq_false c2
    have c2b1 : decide (40 < l0.length) = false := decide_eq_false (by omega)
    clear c2
    have H' := Aside0.mk H
    clear H
    go_enter Try.func33, Try.ntmps33
    go_wp2
    go_loopg [3] k (fun kq v3 w' => ∃ (x3_1 : Int), v3 = .int .i64 x3_1 ∧ Aside0 (spec_PiecesOk.l0 kq l0 x3_1 = some r) ∧ Aside0 (kq ≤ k) ∧ Drawn0 w w')
    case atStart => exact ⟨(0), zf33_1, H', ⟨Nat.le_refl _⟩, by repeat (first | exact Drawn0.refl _ | apply Drawn0.step)⟩
    case round =>
      clear H'
      try clear c2
      try clear c2b0
      try clear c2b1
      try clear p2
      obtain ⟨x3_1, rfl, HA, HK1, ⟨m1, rfl⟩⟩ := hrel
      cases gk with
      | zero => exact absurd HA.out (by simp [spec_PiecesOk.l0])
      | succ k1 =>
        have H := HA.out
        clear HA
        simp only [spec_PiecesOk.l0] at H
        by_cases c3 : x3_1 < (l0.length : Int)
        · rw [if_pos c3] at H
          have c3b0 : decide (x3_1 < (l0.length : Int)) = true := decide_eq_true c3
          clear c3
          have HC4 := Aside0.mk H
          clear H
          go_upto_region 6 with (fail)
          go_cut [37] (fun v37 wc => ∃ (kq : Nat) (x37_3 : Bool), v37 = .bool x37_3 ∧ Aside0 (spec_PiecesOk.j1 kq l0 x3_1 x37_3 = some r) ∧ Aside0 (kq ≤ k1) ∧ Drawn0 w wc)
          case first =>
            have H := HC4.out
            clear HC4
            by_cases c5 : 0 ≤ x3_1
            · rw [if_pos c5] at H
              have c5b0 : decide (0 ≤ x3_1) = true := decide_eq_true c5
              clear c5
              (first | rw [c5b0] | (simp only [i64_w, i32_w]; rw [c5b0]) | skip)
              by_cases c6 : ((rd_T80 l0 x3_1).f0) < 1
              · rw [if_pos c6] at H
                have c6b0 : decide (((rd_T80 l0 x3_1).f0) < 1) = true := decide_eq_true c6
                clear c6
                have H' := Aside0.mk H
                clear H
                have p336 : 0 ≤ (x3_1 : Int) := of_decide_eq_true zf33_0
                have q336 : x3_1 < (l0.length : Int) := of_decide_eq_true zf33_0
                obtain ⟨ad336, e336, hx336_0, hx336_1, hx336_2⟩ := at_T80 HR0.out x3_1 p336 q336
                cases e336
                replace p336 := eq_true p336
                replace q336 := eq_true q336
                go_wp2
                go_meet
                case rel => exact ⟨_, (true), zf33_1, H', ⟨by have := HK1.out; first | omega | exact Nat.le_refl _⟩, by repeat (first | exact Drawn0.refl _ | apply Drawn0.step)⟩
              · rw [if_neg c6] at H
                have c6b0 : decide (((rd_T80 l0 x3_1).f0) < 1) = false := decide_eq_false c6
                clear c6
                replace H := Option.bind_eq_some_iff.mp H
                obtain ⟨t338, A70, H⟩ := H
                replace H : (if t338 = true then ((spec_l01In.f ((rd_T80 l0 x3_1).f2) 0 5).bind fun t340 => (spec_PiecesOk.j1 k1 l0 x3_1 (!t340))) else (spec_PiecesOk.j1 k1 l0 x3_1 true)) = some r := H
                have A7 := Aside0.mk A70
                clear A70
                by_cases c8 : t338 = true
                · subst c8
                  have H1 : ((spec_l01In.f ((rd_T80 l0 x3_1).f2) 0 5).bind fun t340 => (spec_PiecesOk.j1 k1 l0 x3_1 (!t340))) = some r := by rw [if_pos rfl] at H; exact H
                  clear H
                  have H := H1
                  clear H1
                  replace H := Option.bind_eq_some_iff.mp H
                  obtain ⟨t340, A90, H⟩ := H
                  replace H : (spec_PiecesOk.j1 k1 l0 x3_1 (!t340)) = some r := H
                  have A9 := Aside0.mk A90
                  clear A90
                  have H' := Aside0.mk H
                  clear H
                  have p336 : 0 ≤ (x3_1 : Int) := of_decide_eq_true zf33_0
                  have q336 : x3_1 < (l0.length : Int) := of_decide_eq_true zf33_0
                  obtain ⟨ad336, e336, hx336_0, hx336_1, hx336_2⟩ := at_T80 HR0.out x3_1 p336 q336
                  cases e336
                  replace p336 := eq_true p336
                  replace q336 := eq_true q336
                  have p337 : 0 ≤ (x3_1 : Int) := of_decide_eq_true zf33_0
                  have q337 : x3_1 < (l0.length : Int) := of_decide_eq_true zf33_0
                  obtain ⟨ad337, e337, hx337_0, hx337_1, hx337_2⟩ := at_T80 HR0.out x3_1 p337 q337
                  obtain rfl : ad336 = ad337 := (by injection e337)
                  replace p337 := eq_true p337
                  replace q337 := eq_true q337
                  go_wp2_with (first | (go_at_call 59; (with_reducible refine (spec_l01In.calls ((rd_T80 l0 x3_1).f1) 1 60 true _ A7.out).mono ?_); rintro e w' ⟨rfl, ⟨nd, rfl⟩⟩; (try first | exact ⟨rfl, _, World.drewN_drewN _ _ _⟩ | exact ⟨rfl, _, Eq.trans (World.drewN_drewN _ _ _) (congrArg (World.drewN _) (Nat.add_assoc _ _ _))⟩); have p339 : 0 ≤ (x3_1 : Int) := of_decide_eq_true zf33_0; have q339 : x3_1 < (l0.length : Int) := of_decide_eq_true zf33_0; obtain ⟨ad339, e339, hx339_0, hx339_1, hx339_2⟩ := at_T80 HR0.out x3_1 p339 q339; obtain rfl : ad336 = ad339 := (by injection e339); replace p339 := eq_true p339; replace q339 := eq_true q339) | (go_at_call 59; (with_reducible refine (spec_l01In.calls ((rd_T80 l0 x3_1).f2) 0 5 t340 _ A9.out).mono ?_); rintro e w' ⟨rfl, ⟨nd, rfl⟩⟩; (try first | exact ⟨rfl, _, World.drewN_drewN _ _ _⟩ | exact ⟨rfl, _, Eq.trans (World.drewN_drewN _ _ _) (congrArg (World.drewN _) (Nat.add_assoc _ _ _))⟩)))
                  go_meet
                  case rel => exact ⟨_, (!t340), zf33_1, H', ⟨by have := HK1.out; first | omega | exact Nat.le_refl _⟩, by repeat (first | exact Drawn0.refl _ | apply Drawn0.step)⟩
                · replace c8 := Bool.eq_false_iff.mpr c8
                  subst c8
                  have H1 : (spec_PiecesOk.j1 k1 l0 x3_1 true) = some r := by rw [if_neg (show ¬ (false = true) by decide)] at H; exact H
                  clear H
                  have H := H1
                  clear H1
                  have H' := Aside0.mk H
                  clear H
                  have p336 : 0 ≤ (x3_1 : Int) := of_decide_eq_true zf33_0
                  have q336 : x3_1 < (l0.length : Int) := of_decide_eq_true zf33_0
                  obtain ⟨ad336, e336, hx336_0, hx336_1, hx336_2⟩ := at_T80 HR0.out x3_1 p336 q336
                  cases e336
                  replace p336 := eq_true p336
                  replace q336 := eq_true q336
                  have p337 : 0 ≤ (x3_1 : Int) := of_decide_eq_true zf33_0
                  have q337 : x3_1 < (l0.length : Int) := of_decide_eq_true zf33_0
                  obtain ⟨ad337, e337, hx337_0, hx337_1, hx337_2⟩ := at_T80 HR0.out x3_1 p337 q337
                  obtain rfl : ad336 = ad337 := (by injection e337)
                  replace p337 := eq_true p337
                  replace q337 := eq_true q337
                  go_wp2_with (go_at_call 59; (with_reducible refine (spec_l01In.calls ((rd_T80 l0 x3_1).f1) 1 60 false _ A7.out).mono ?_); rintro e w' ⟨rfl, ⟨nd, rfl⟩⟩; (try first | exact ⟨rfl, _, World.drewN_drewN _ _ _⟩ | exact ⟨rfl, _, Eq.trans (World.drewN_drewN _ _ _) (congrArg (World.drewN _) (Nat.add_assoc _ _ _))⟩))
                  go_meet
                  case rel => exact ⟨_, (true), zf33_1, H', ⟨by have := HK1.out; first | omega | exact Nat.le_refl _⟩, by repeat (first | exact Drawn0.refl _ | apply Drawn0.step)⟩
            · rw [if_neg c5] at H
              exact absurd H (by simp)
          case rest =>
            clear HC4
            try clear c2
            try clear c2b0
            try clear c2b1
            try clear p2
            try clear c3
            try clear c3b0
            try clear p3
            try clear q3
            try clear hx3
            try clear c5
            try clear c5b0
            try clear c6
            try clear c6b0
            try clear c8
            try clear hx336_0
            try clear hx336_1
            try clear hx336_2
            try clear hx337_0
            try clear hx337_1
            try clear hx337_2
            try clear hx339_0
            try clear hx339_1
            try clear hx339_2
            try clear p2
            try clear p336
            try clear p337
            try clear p339
            try clear q336
            try clear q337
            try clear q339
            obtain ⟨kq, x37_3, rfl, HA, HJ3, ⟨mc3, rfl⟩⟩ := hcut
            cases kq with
            | zero => exact absurd HA.out (by simp [spec_PiecesOk.j1])
            | succ kj3 =>
              have H := HA.out
              clear HA
              simp only [spec_PiecesOk.j1] at H
              by_cases c10 : x37_3 = true
              · subst c10
                have H1 : (some false) = some r := by rw [if_pos rfl] at H; exact H
                clear H
                have H := H1
                clear H1
                obtain rfl := Option.some.inj H
                go_wp2
                go_ret
                exact ⟨by first | rfl | (simp; done) | (simp [*]; done), by repeat (first | exact Drawn0.refl _ | apply Drawn0.step)⟩
              · replace c10 := Bool.eq_false_iff.mpr c10
                subst c10
                have H1 : (spec_PiecesOk.l1 kj3 l0 x3_1 0) = some r := by rw [if_neg (show ¬ (false = true) by decide)] at H; exact H
                clear H
                have H := H1
                clear H1
                have H' := Aside0.mk H
                clear H
                go_wp2
                go_loopg [4] kj3 (fun kq v4 w' => ∃ (x4_3 : Int), v4 = .int .i64 x4_3 ∧ Aside0 (spec_PiecesOk.l1 kq l0 x3_1 x4_3 = some r) ∧ Aside0 (kq ≤ kj3) ∧ Drawn0 w w')
                case atStart => exact ⟨(0), zf33_1, H', ⟨Nat.le_refl _⟩, by repeat (first | exact Drawn0.refl _ | apply Drawn0.step)⟩
                case round =>
                  clear H'
                  try clear c1
                  try clear c2
                  try clear c2b0
                  try clear c2b1
                  try clear p2
                  try clear c3
                  try clear c3b0
                  try clear p3
                  try clear q3
                  try clear hx3
                  try clear c5
                  try clear c5b0
                  try clear c6
                  try clear c6b0
                  try clear c8
                  try clear c10
                  try clear hx336_0
                  try clear hx336_1
                  try clear hx336_2
                  try clear hx337_0
                  try clear hx337_1
                  try clear hx337_2
                  try clear hx339_0
                  try clear hx339_1
                  try clear hx339_2
                  try clear p2
                  try clear p3
                  try clear p336
                  try clear p337
                  try clear p339
                  try clear q3
                  try clear q336
                  try clear q337
                  try clear q339
                  obtain ⟨x4_3, rfl, HA, HK3, ⟨m3, rfl⟩⟩ := hrel
                  cases gk with
                  | zero => exact absurd HA.out (by simp [spec_PiecesOk.l1])
                  | succ k3 =>
                    have H := HA.out
                    clear HA
                    simp only [spec_PiecesOk.l1] at H
                    by_cases c11 : x4_3 < x3_1
                    · rw [if_pos c11] at H
                      have c11b0 : decide (x4_3 < x3_1) = true := decide_eq_true c11
                      clear c11
                      by_cases c12 : 0 ≤ x4_3
                      · rw [if_pos c12] at H
                        have c12b0 : decide (0 ≤ x4_3) = true := decide_eq_true c12
                        clear c12
                        by_cases c13 : x4_3 < (l0.length : Int)
                        · rw [if_pos c13] at H
                          have c13b0 : decide (x4_3 < (l0.length : Int)) = true := decide_eq_true c13
                          clear c13
                          by_cases c14 : 0 ≤ x3_1
                          · rw [if_pos c14] at H
                            have c14b0 : decide (0 ≤ x3_1) = true := decide_eq_true c14
                            clear c14
                            by_cases c15 : x3_1 < (l0.length : Int)
                            · rw [if_pos c15] at H
                              have c15b0 : decide (x3_1 < (l0.length : Int)) = true := decide_eq_true c15
                              clear c15
                              by_cases c16 : ((rd_T80 l0 x4_3).f0) = ((rd_T80 l0 x3_1).f0)
                              · rw [if_pos c16] at H
                                have c16b0 : (((rd_T80 l0 x4_3).f0) == ((rd_T80 l0 x3_1).f0)) = true := beq_iff_eq.mpr c16
                                have c16b1 : (((rd_T80 l0 x4_3).f0) != ((rd_T80 l0 x3_1).f0)) = false := bne_eq_false_iff_eq.mpr c16
                                clear c16
                                obtain rfl := Option.some.inj H
                                have p341 : 0 ≤ (x4_3 : Int) := of_decide_eq_true zf33_0
                                have q341 : x4_3 < (l0.length : Int) := of_decide_eq_true zf33_0
                                obtain ⟨ad341, e341, hx341_0, hx341_1, hx341_2⟩ := at_T80 HR0.out x4_3 p341 q341
                                cases e341
                                replace p341 := eq_true p341
                                replace q341 := eq_true q341
                                have p342 : 0 ≤ (x3_1 : Int) := of_decide_eq_true zf33_0
                                have q342 : x3_1 < (l0.length : Int) := of_decide_eq_true zf33_0
                                obtain ⟨ad342, e342, hx342_0, hx342_1, hx342_2⟩ := at_T80 HR0.out x3_1 p342 q342
                                obtain rfl : ad341 = ad342 := (by injection e342)
                                replace p342 := eq_true p342
                                replace q342 := eq_true q342
                                go_wp2
                                repeat (go_quiet (fail); try go_wp2)
                                go_ret
                                exact ⟨by first | rfl | (simp; done) | (simp [*]; done), by repeat (first | exact Drawn0.refl _ | apply Drawn0.step)⟩
                              · rw [if_neg c16] at H
                                have c16b0 : (((rd_T80 l0 x4_3).f0) == ((rd_T80 l0 x3_1).f0)) = false := beq_eq_false_iff_ne.mpr c16
                                have c16b1 : (((rd_T80 l0 x4_3).f0) != ((rd_T80 l0 x3_1).f0)) = true := bne_iff_ne.mpr c16
                                have H' := Aside0.mk H
                                clear H
                                have p341 : 0 ≤ (x4_3 : Int) := of_decide_eq_true zf33_0
                                have q341 : x4_3 < (l0.length : Int) := of_decide_eq_true zf33_0
                                obtain ⟨ad341, e341, hx341_0, hx341_1, hx341_2⟩ := at_T80 HR0.out x4_3 p341 q341
                                cases e341
                                replace p341 := eq_true p341
                                replace q341 := eq_true q341
                                have p342 : 0 ≤ (x3_1 : Int) := of_decide_eq_true zf33_0
                                have q342 : x3_1 < (l0.length : Int) := of_decide_eq_true zf33_0
                                obtain ⟨ad342, e342, hx342_0, hx342_1, hx342_2⟩ := at_T80 HR0.out x3_1 p342 q342
                                obtain rfl : ad341 = ad342 := (by injection e342)
                                replace p342 := eq_true p342
                                replace q342 := eq_true q342
                                go_wp2
                                repeat (go_quiet (fail); try go_wp2)
                                go_roundg k3
                                case measure => have := HK1.out; have := HJ3.out; have := HK3.out; omega
                                case rel => exact ⟨(wrap64 (x4_3 + 1)), zf33_1, H', ⟨by have := HK1.out; have := HJ3.out; have := HK3.out; omega⟩, by repeat (first | exact Drawn0.refl _ | apply Drawn0.step)⟩
                            · rw [if_neg c15] at H
                              exact absurd H (by simp)
                          · rw [if_neg c14] at H
                            exact absurd H (by simp)
                        · rw [if_neg c13] at H
                          exact absurd H (by simp)
                      · rw [if_neg c12] at H
                        exact absurd H (by simp)
                    · rw [if_neg c11] at H
                      have c11b0 : decide (x4_3 < x3_1) = false := decide_eq_false c11
                      clear c11
                      have H' := Aside0.mk H
                      clear H
                      go_wp2
                      go_roundg k3
                      case measure => have := HK1.out; have := HJ3.out; have := HK3.out; omega
                      case rel => exact ⟨(wrap64 (x3_1 + 1)), zf33_1, H', ⟨by have := HK1.out; have := HJ3.out; have := HK3.out; omega⟩, by repeat (first | exact Drawn0.refl _ | apply Drawn0.step)⟩
        · rw [if_neg c3] at H
          have c3b0 : decide (x3_1 < (l0.length : Int)) = false := decide_eq_false c3
          clear c3
          obtain rfl := Option.some.inj H
          go_wp2
          go_ret
          exact ⟨by first | rfl | (simp; done) | (simp [*]; done), by repeat (first | exact Drawn0.refl _ | apply Drawn0.step)⟩

end Go.Proofs.Ytnldmnlfocigaaa.F

-- PRINTED by print.py (a twelfth state) out of the translation. Not trusted: Lean checks it.
import Derived.Test.YtppojihmllmgnaaF
import Derived.Test.YtppojihmllmgnaaF23
import Derived.Test.YtppojihmllmgnaaF29
import Derived.Test.YtppojihmllmgnaaF31
import Derived.Test.YtppojihmllmgnaaF33
namespace Go.Proofs.Ytppojihmllmgnaa.F
open Go.Proofs.Ytppojihmllmgnaa.Opn
open Go.RowKit Go.Proofs.YtppojihmllmgnaaW.PrintWords Go.Proofs.YtppojihmllmgnaaW.PrintLast
set_option linter.unusedVariables false
set_option linter.unusedSimpArgs false

/-! ### spec_HeldUp: function 53 -/
mutual
def spec_HeldUp.l0 : Nat → List (S25) → Int → List Int → Int → Option (List Int)
 | 0, _, _, _, _ => none
 | k + 1, x0, x1, x5, x6 => if x6 ≤ 1000 then (spec_HeldUp.l1 k x0 x1 x5 x6 false 0) else (some x5)
def spec_HeldUp.l1 : Nat → List (S25) → Int → List Int → Int → Bool → Int → Option (List Int)
 | 0, _, _, _, _, _, _ => none
 | k + 1, x0, x1, x5, x6, x7, x8 => if x8 < (x0.length : Int) then (if 0 ≤ x8 then (if ((rd_T25 x0 x8).f1) = 1 then (spec_HeldUp.j2 k x0 x1 x5 x6 x7 x8 (((rd_T25 x0 x8).f2) != x6)) else (spec_HeldUp.j2 k x0 x1 x5 x6 x7 x8 true)) else (none)) else (if x7 = true then ((spec_Aboard.f k x0 x6 x1).bind fun t674 => (if t674 = true then (spec_HeldUp.l0 k x0 x1 x5 (wrap64 (x6 + 1))) else (if x5.length < 17592186044416 then (spec_HeldUp.l0 k x0 x1 (x5 ++ [x6]) (wrap64 (x6 + 1))) else (none)))) else (spec_HeldUp.l0 k x0 x1 x5 (wrap64 (x6 + 1))))
def spec_HeldUp.j2 : Nat → List (S25) → Int → List Int → Int → Bool → Int → Bool → Option (List Int)
 | 0, _, _, _, _, _, _, _ => none
 | k + 1, x0, x1, x5, x6, x7, x8, x40 => if x40 = true then (spec_HeldUp.l1 k x0 x1 x5 x6 x7 (wrap64 (x8 + 1))) else (if 0 ≤ x8 then (if x8 < (x0.length : Int) then ((spec_OwnerOf.f k x0 ((rd_T25 x0 x8).f3)).bind fun bt681 => (if x7 = true then (spec_HeldUp.l1 k x0 x1 x5 x6 true (wrap64 (x8 + 1))) else (if bt681.2.2 = true then (if bt681.1 = x6 then (if bt681.2.1 = x1 then ((spec_Pulled.f k x0 ((rd_T25 x0 x8).f3) x1).bind fun t686 => (spec_HeldUp.l1 k x0 x1 x5 x6 (!t686) (wrap64 (x8 + 1)))) else (spec_HeldUp.l1 k x0 x1 x5 x6 false (wrap64 (x8 + 1)))) else (spec_HeldUp.l1 k x0 x1 x5 x6 false (wrap64 (x8 + 1)))) else (spec_HeldUp.l1 k x0 x1 x5 x6 false (wrap64 (x8 + 1)))))) else (none)) else (none))
end
def spec_HeldUp.f (k : Nat) (l0 : List (S25)) (a1 : Int) : Option (List Int) := (some (([] : List Int) : List Int)).bind fun y670 => ((spec_NotesOk.f k l0).bind fun t673 => (if t673 = true then (spec_HeldUp.l0 k l0 a1 y670 1) else (some y670)))
theorem spec_HeldUp.mono_l : ∀ k, (∀ y0 y1 y2 y3, LeO (spec_HeldUp.l0 k y0 y1 y2 y3) (spec_HeldUp.l0 (k + 1) y0 y1 y2 y3)) ∧ (∀ y0 y1 y2 y3 y4 y5, LeO (spec_HeldUp.l1 k y0 y1 y2 y3 y4 y5) (spec_HeldUp.l1 (k + 1) y0 y1 y2 y3 y4 y5)) ∧ (∀ y0 y1 y2 y3 y4 y5 y6, LeO (spec_HeldUp.j2 k y0 y1 y2 y3 y4 y5 y6) (spec_HeldUp.j2 (k + 1) y0 y1 y2 y3 y4 y5 y6))
 | 0 => ⟨fun _ _ _ _ r h => by simp [spec_HeldUp.l0] at h, fun _ _ _ _ _ _ r h => by simp [spec_HeldUp.l1] at h, fun _ _ _ _ _ _ _ r h => by simp [spec_HeldUp.j2] at h⟩
 | k + 1 => by
  obtain ⟨ih0, ih1, ih2⟩ := spec_HeldUp.mono_l k
  refine ⟨?_, ?_, ?_⟩
  ·
   intro y0 y1 y2 y3
   unfold spec_HeldUp.l0
   repeat' first
   | (with_reducible exact ih0 _ _ _ _)
   | (with_reducible exact ih1 _ _ _ _ _ _)
   | (with_reducible exact ih2 _ _ _ _ _ _ _)
   | (with_reducible exact spec_Aboard.mono _ _ _ _)
   | (with_reducible exact spec_NotesOk.mono _ _)
   | (with_reducible exact spec_OwnerOf.mono _ _ _)
   | (with_reducible exact spec_Pulled.mono _ _ _ _)
   | (with_reducible exact LeO.refl _)
   | (with_reducible exact LeO.none _)
   | (with_reducible refine LeO.ite ?_ ?_)
   | (with_reducible refine LeO.bind ?_ (fun _ => ?_))
   | exact ih0 _ _ _ _
   | exact ih1 _ _ _ _ _ _
   | exact ih2 _ _ _ _ _ _ _
   | exact spec_Aboard.mono _ _ _ _
   | exact spec_NotesOk.mono _ _
   | exact spec_OwnerOf.mono _ _ _
   | exact spec_Pulled.mono _ _ _ _
   | exact LeO.none _
   | refine LeO.ite ?_ ?_
   | refine LeO.bind ?_ (fun _ => ?_)
  ·
   intro y0 y1 y2 y3 y4 y5
   unfold spec_HeldUp.l1
   repeat' first
   | (with_reducible exact ih0 _ _ _ _)
   | (with_reducible exact ih1 _ _ _ _ _ _)
   | (with_reducible exact ih2 _ _ _ _ _ _ _)
   | (with_reducible exact spec_Aboard.mono _ _ _ _)
   | (with_reducible exact spec_NotesOk.mono _ _)
   | (with_reducible exact spec_OwnerOf.mono _ _ _)
   | (with_reducible exact spec_Pulled.mono _ _ _ _)
   | (with_reducible exact LeO.refl _)
   | (with_reducible exact LeO.none _)
   | (with_reducible refine LeO.ite ?_ ?_)
   | (with_reducible refine LeO.bind ?_ (fun _ => ?_))
   | exact ih0 _ _ _ _
   | exact ih1 _ _ _ _ _ _
   | exact ih2 _ _ _ _ _ _ _
   | exact spec_Aboard.mono _ _ _ _
   | exact spec_NotesOk.mono _ _
   | exact spec_OwnerOf.mono _ _ _
   | exact spec_Pulled.mono _ _ _ _
   | exact LeO.none _
   | refine LeO.ite ?_ ?_
   | refine LeO.bind ?_ (fun _ => ?_)
  ·
   intro y0 y1 y2 y3 y4 y5 y6
   unfold spec_HeldUp.j2
   repeat' first
   | (with_reducible exact ih0 _ _ _ _)
   | (with_reducible exact ih1 _ _ _ _ _ _)
   | (with_reducible exact ih2 _ _ _ _ _ _ _)
   | (with_reducible exact spec_Aboard.mono _ _ _ _)
   | (with_reducible exact spec_NotesOk.mono _ _)
   | (with_reducible exact spec_OwnerOf.mono _ _ _)
   | (with_reducible exact spec_Pulled.mono _ _ _ _)
   | (with_reducible exact LeO.refl _)
   | (with_reducible exact LeO.none _)
   | (with_reducible refine LeO.ite ?_ ?_)
   | (with_reducible refine LeO.bind ?_ (fun _ => ?_))
   | exact ih0 _ _ _ _
   | exact ih1 _ _ _ _ _ _
   | exact ih2 _ _ _ _ _ _ _
   | exact spec_Aboard.mono _ _ _ _
   | exact spec_NotesOk.mono _ _
   | exact spec_OwnerOf.mono _ _ _
   | exact spec_Pulled.mono _ _ _ _
   | exact LeO.none _
   | refine LeO.ite ?_ ?_
   | refine LeO.bind ?_ (fun _ => ?_)
theorem spec_HeldUp.mono : ∀ a0 a1 k, LeO (spec_HeldUp.f k a0 a1) (spec_HeldUp.f (k + 1) a0 a1) := by
 intro a0 a1 k
 obtain ⟨ih0, ih1, ih2⟩ := spec_HeldUp.mono_l k
 unfold spec_HeldUp.f
 repeat' first
   | (with_reducible exact ih0 _ _ _ _)
   | (with_reducible exact ih1 _ _ _ _ _ _)
   | (with_reducible exact ih2 _ _ _ _ _ _ _)
   | (with_reducible exact spec_Aboard.mono _ _ _ _)
   | (with_reducible exact spec_NotesOk.mono _ _)
   | (with_reducible exact spec_OwnerOf.mono _ _ _)
   | (with_reducible exact spec_Pulled.mono _ _ _ _)
   | (with_reducible exact LeO.refl _)
   | (with_reducible exact LeO.none _)
   | (with_reducible refine LeO.ite ?_ ?_)
   | (with_reducible refine LeO.bind ?_ (fun _ => ?_))
   | exact ih0 _ _ _ _
   | exact ih1 _ _ _ _ _ _
   | exact ih2 _ _ _ _ _ _ _
   | exact spec_Aboard.mono _ _ _ _
   | exact spec_NotesOk.mono _ _
   | exact spec_OwnerOf.mono _ _ _
   | exact spec_Pulled.mono _ _ _ _
   | exact LeO.none _
   | refine LeO.ite ?_ ?_
   | refine LeO.bind ?_ (fun _ => ?_)
set_option maxHeartbeats 8000000 in
set_option maxRecDepth 100000 in
theorem spec_HeldUp.calls (k : Nat) (A0 : Option Addr) (c0 : Nat) (l0 : List (S25)) (a1 : Int) (r : List Int) (w : World) (hr0 : Kd.C k25 w A0 l0.length l0) (hc0 : l0.length ≤ c0) (h : spec_HeldUp.f k l0 a1 = some r) :
  Calls Try.prog 53 #[.slice A0 l0.length c0, .int .i64 a1] w fun e w' => ∃ v0_ : Value, e = .returned (v0_) ∧ Kd.R (Kd.int .i64) 3 w' w.heap.size (fun _ => True) v0_ r ∧ Below w.heap.size w w' := by
 have hu39 := Try.underlying39
 have HR0 := Aside0.mk hr0
 have HC0 := Aside0.mk hc0
 clear hr0 hc0
 have HB := Aside0.mk (Below.refl w.heap.size w)
 have H : ((some (([] : List Int) : List Int)).bind fun y670 => ((spec_NotesOk.f k l0).bind fun t673 => (if t673 = true then (spec_HeldUp.l0 k l0 a1 y670 1) else (some y670)))) = some r := h
 clear h
 obtain ⟨y670, hy670⟩ : ∃ y_ : List Int, y_ = (([] : List Int)) := ⟨_, rfl⟩
 replace H : ((spec_NotesOk.f k l0).bind fun t673 => (if t673 = true then (spec_HeldUp.l0 k l0 a1 y670 1) else (some y670))) = some r := by rw [hy670]; exact H
 have Ny670 := Aside0.mk hy670
 clear hy670
 replace H := Option.bind_eq_some_iff.mp H
 obtain ⟨t673, A30, H⟩ := H
 replace H : (if t673 = true then (spec_HeldUp.l0 k l0 a1 y670 1) else (some y670)) = some r := H
 have A3 := Aside0.mk A30
 clear A30
 by_cases c4 : t673 = true
 ·
  subst c4
  have H1 : (spec_HeldUp.l0 k l0 a1 y670 1) = some r := by rw [if_pos rfl] at H; exact H
  clear H
  have H := H1
  clear H1
  have H' := Aside0.mk H
  clear H
  go_enter Try.func53, Try.ntmps53
  go_wp2_with (first | ((with_reducible refine gate_dst (N := 11) rfl ?_); refine Kd.R_lit (Kd.int .i64) _ 3 ?hg (N := 11) ?hd (xs := ([] : List Int)) (inner := []) (ok := fun _ => True) (okp := fun _ => True) ?hr ?hp (fun _ hk => hk) trivial (Below.refl _ _) (Nat.le_refl _) (by simp) ?_; (case hd => rfl); (case hg => rfl); (case hr => first | (go_simp; done) | (go_simp; rfl)); (case hp => exact (Reps.none _ _)); intro v671 w5 ho6 hb hg_ hnew_; clear hg_ hnew_; (first | rw [← Ny670.out] at ho6 | (simp only [Int.reduceToNat] at ho6; rw [← Ny670.out] at ho6)); have n0_ := Aside0.mk (Kd.R_lower ho6 (below_size (by repeat (first | (with_reducible first | exact HB.out | apply below_alloc | apply pw_below_drewN | apply below_drew1) | exact HB.out)))); have n1_ := Aside0.mk (below_step (by repeat (first | (with_reducible first | exact HB.out | apply below_alloc | apply pw_below_drewN | apply below_drew1) | exact HB.out)) hb); clear HB; have HO672 := n0_; have HB := n1_; clear n0_ n1_; clear hb ho6) | ((with_reducible refine gate_callee (f := 23) rfl ?_); refine goesL_ (some 13) rfl rfl Try.func23 (by kernel_rfl) rfl #[.slice A0 l0.length c0] rfl (by (try simp only [List.map_toArray, List.map_cons, List.map_nil]); first | done | rfl | (simp only [List.length_drop, List.length_take]; rfl)) ?_; (with_reducible refine (spec_NotesOk.calls k _ _ l0 true _ ?side1 ?side2 A3.out).mono ?_); (case side1 => repeat (first | exact (Kd.C_below HR0.out HB.out) | (with_reducible refine Kd.C_alloc ?_ _) | (with_reducible refine Kd.C_drewN ?_ _) | (with_reducible refine Kd.C_drew ?_))); (case side2 => exact HC0.out); rintro e w7 ⟨rfl, hb⟩; refine ⟨_, rfl, ?_⟩; have n0_ := Aside0.mk (Kd.R_below (by (with_reducible repeat (first | apply Kd.R_alloc | apply Kd.R_drewN | apply Kd.R_drew)); exact HO672.out) hb); have n1_ := Aside0.mk (below_step (by repeat (first | (with_reducible first | exact HB.out | apply below_alloc | apply pw_below_drewN | apply below_drew1) | exact HB.out)) hb); clear HO672; clear HB; have HO672 := n0_; have HB := n1_; clear n0_ n1_; (try clear hb); (try clear hb2); (try clear hk); (try clear hi)))
  (try simp only [Act.put, List.setIfInBounds_toArray, List.set_cons_zero, List.set_cons_succ])
  go_loopg [5, 6] k (fun kq v5 v6 w' => ∃ (x5_1 : List Int) (x6_1 : Int), v6 = .int .i64 x6_1 ∧ Aside0 (spec_HeldUp.l0 kq l0 a1 x5_1 x6_1 = some r) ∧ Aside0 (kq ≤ k) ∧ Aside0 (Kd.R (Kd.int .i64) 3 w' w.heap.size (fun _ => True) v5 x5_1) ∧ Aside0 (Below w.heap.size w w'))
  case atStart => exact ⟨(y670), (1), rfl, H', ⟨Nat.le_refl _⟩, ⟨HO672.out⟩, ⟨HB.out⟩⟩
  case round =>
   clear H'
   try clear c2
   try clear p2
   try clear c4
   try clear c5
   obtain ⟨x5_1, x6_1, rfl, HA, HK1, HO_5, HB⟩ := hrel
   cases gk with
   | zero => exact absurd HA.out (by simp [spec_HeldUp.l0])
   | succ k1 =>
    have H := HA.out
    clear HA
    simp only [spec_HeldUp.l0] at H
    by_cases c8 : x6_1 ≤ 1000
    ·
     rw [if_pos c8] at H
     have c8b0 : decide (x6_1 ≤ 1000) = true := decide_eq_true c8
     clear c8
     have H' := Aside0.mk H
     clear H
     go_wp2
     go_loopg [7, 8] k1 (fun kq v7 v8 w' => ∃ (x7_2 : Bool) (x8_2 : Int), v7 = .bool x7_2 ∧ v8 = .int .i64 x8_2 ∧ Aside0 (spec_HeldUp.l1 kq l0 a1 x5_1 x6_1 x7_2 x8_2 = some r) ∧ Aside0 (kq ≤ k1) ∧ Aside0 (Kd.R (Kd.int .i64) 3 w' w.heap.size (fun _ => True) u5 x5_1) ∧ Aside0 (Below w.heap.size w w'))
     case atStart => exact ⟨(false), (0), rfl, rfl, H', ⟨Nat.le_refl _⟩, ⟨HO_5.out⟩, ⟨HB.out⟩⟩
     case round =>
      clear H'
      try clear c2
      try clear p2
      try clear c4
      try clear c5
      try clear c8
      try clear c8b0
      try clear p2
      obtain ⟨x7_2, x8_2, rfl, rfl, HA, HK2, HO_5, HB⟩ := hrel
      cases gk with
      | zero => exact absurd HA.out (by simp [spec_HeldUp.l1])
      | succ k2 =>
       have H := HA.out
       clear HA
       simp only [spec_HeldUp.l1] at H
       by_cases c9 : x8_2 < (l0.length : Int)
       ·
        rw [if_pos c9] at H
        have c9b0 : decide (x8_2 < (l0.length : Int)) = true := decide_eq_true c9
        clear c9
        have HC10 := Aside0.mk H
        clear H
        go_upto_region 11 with (fail)
        go_cut [40] (fun v40 wc => ∃ (kq : Nat) (x40_9 : Bool), v40 = .bool x40_9 ∧ Aside0 (spec_HeldUp.j2 kq l0 a1 x5_1 x6_1 x7_2 x8_2 x40_9 = some r) ∧ Aside0 (kq ≤ k2) ∧ Aside0 (Kd.R (Kd.int .i64) 3 wc w.heap.size (fun _ => True) u5 x5_1) ∧ Aside0 (Below w.heap.size w wc))
        case first =>
         have H := HC10.out
         clear HC10
         by_cases c11 : 0 ≤ x8_2
         ·
          rw [if_pos c11] at H
          have c11b0 : decide (0 ≤ x8_2) = true := decide_eq_true c11
          clear c11
          (first | rw [c11b0] | (simp only [i64_w, i32_w]; rw [c11b0]) | skip)
          by_cases c12 : ((rd_T25 l0 x8_2).f1) = 1
          ·
           rw [if_pos c12] at H
           have c12b0 : (((rd_T25 l0 x8_2).f1) == 1) = true := beq_iff_eq.mpr c12
           have c12b1 : (((rd_T25 l0 x8_2).f1) != 1) = false := bne_eq_false_iff_eq.mpr c12
           clear c12
           have H' := Aside0.mk H
           clear H
           have p678 : 0 ≤ (x8_2 : Int) := of_decide_eq_true (by assumption)
           have q678 : x8_2 < (l0.length : Int) := of_decide_eq_true (by assumption)
           obtain ⟨ad678, e678, hx678_0, hx678_1, hx678_2, hx678_3, hx678_4⟩ := at_T25 HR0.out x8_2 p678 q678
           cases e678
           replace hx678_0 := (HB.out.cell (World.block_lt_of_cell? w _ hx678_0)).trans hx678_0
           replace hx678_1 := (HB.out.cell (World.block_lt_of_cell? w _ hx678_1)).trans hx678_1
           replace hx678_2 := (HB.out.cell (World.block_lt_of_cell? w _ hx678_2)).trans hx678_2
           replace hx678_3 := (HB.out.cell (World.block_lt_of_cell? w _ hx678_3)).trans hx678_3
           replace hx678_4 := (HB.out.cell (World.block_lt_of_cell? w _ hx678_4)).trans hx678_4
           replace p678 := eq_true p678
           replace q678 := eq_true q678
           have p679 : 0 ≤ (x8_2 : Int) := of_decide_eq_true (by assumption)
           have q679 : x8_2 < (l0.length : Int) := of_decide_eq_true (by assumption)
           obtain ⟨ad679, e679, hx679_0, hx679_1, hx679_2, hx679_3, hx679_4⟩ := at_T25 HR0.out x8_2 p679 q679
           obtain rfl : ad678 = ad679 := (by injection e679)
           replace hx679_0 := (HB.out.cell (World.block_lt_of_cell? w _ hx679_0)).trans hx679_0
           replace hx679_1 := (HB.out.cell (World.block_lt_of_cell? w _ hx679_1)).trans hx679_1
           replace hx679_2 := (HB.out.cell (World.block_lt_of_cell? w _ hx679_2)).trans hx679_2
           replace hx679_3 := (HB.out.cell (World.block_lt_of_cell? w _ hx679_3)).trans hx679_3
           replace hx679_4 := (HB.out.cell (World.block_lt_of_cell? w _ hx679_4)).trans hx679_4
           replace p679 := eq_true p679
           replace q679 := eq_true q679
           go_wp2
           go_meet
           case rel => exact ⟨_, ((((rd_T25 l0 x8_2).f2) != x6_1)), rfl, H', ⟨by have := HK1.out; have := HK2.out; first | omega | exact Nat.le_refl _⟩, ⟨HO_5.out⟩, ⟨HB.out⟩⟩
          ·
           rw [if_neg c12] at H
           have c12b0 : (((rd_T25 l0 x8_2).f1) == 1) = false := beq_eq_false_iff_ne.mpr c12
           have c12b1 : (((rd_T25 l0 x8_2).f1) != 1) = true := bne_iff_ne.mpr c12
           have H' := Aside0.mk H
           clear H
           have p678 : 0 ≤ (x8_2 : Int) := of_decide_eq_true (by assumption)
           have q678 : x8_2 < (l0.length : Int) := of_decide_eq_true (by assumption)
           obtain ⟨ad678, e678, hx678_0, hx678_1, hx678_2, hx678_3, hx678_4⟩ := at_T25 HR0.out x8_2 p678 q678
           cases e678
           replace hx678_0 := (HB.out.cell (World.block_lt_of_cell? w _ hx678_0)).trans hx678_0
           replace hx678_1 := (HB.out.cell (World.block_lt_of_cell? w _ hx678_1)).trans hx678_1
           replace hx678_2 := (HB.out.cell (World.block_lt_of_cell? w _ hx678_2)).trans hx678_2
           replace hx678_3 := (HB.out.cell (World.block_lt_of_cell? w _ hx678_3)).trans hx678_3
           replace hx678_4 := (HB.out.cell (World.block_lt_of_cell? w _ hx678_4)).trans hx678_4
           replace p678 := eq_true p678
           replace q678 := eq_true q678
           go_wp2
           go_meet
           case rel => exact ⟨_, (true), rfl, H', ⟨by have := HK1.out; have := HK2.out; first | omega | exact Nat.le_refl _⟩, ⟨HO_5.out⟩, ⟨HB.out⟩⟩
         ·
          rw [if_neg c11] at H
          exact absurd H (by simp)
        case rest =>
         clear HC10
         try clear c1
         try clear c2
         try clear p2
         try clear c4
         try clear c5
         try clear p6
         try clear q6
         try clear hx6
         try clear c8
         try clear c8b0
         try clear c9
         try clear c9b0
         try clear c11
         try clear c11b0
         try clear c12
         try clear c12b0
         try clear c12b1
         try clear hx678_0
         try clear hx678_1
         try clear hx678_2
         try clear hx678_3
         try clear hx678_4
         try clear hx679_0
         try clear hx679_1
         try clear hx679_2
         try clear hx679_3
         try clear hx679_4
         try clear p2
         try clear p678
         try clear p679
         try clear q678
         try clear q679
         obtain ⟨kq, x40_9, rfl, HA, HJ9, HO_5, HB⟩ := hcut
         cases kq with
         | zero => exact absurd HA.out (by simp [spec_HeldUp.j2])
         | succ kj9 =>
          have H := HA.out
          clear HA
          simp only [spec_HeldUp.j2] at H
          by_cases c13 : x40_9 = true
          ·
           subst c13
           have H1 : (spec_HeldUp.l1 kj9 l0 a1 x5_1 x6_1 x7_2 (wrap64 (x8_2 + 1))) = some r := by rw [if_pos rfl] at H; exact H
           clear H
           have H := H1
           clear H1
           have H' := Aside0.mk H
           clear H
           go_wp2
           go_roundg kj9
           case measure => have := HK1.out; have := HK2.out; have := HJ9.out; omega
           case rel => exact ⟨(x7_2), (wrap64 (x8_2 + 1)), rfl, rfl, H', ⟨by have := HK1.out; have := HK2.out; have := HJ9.out; omega⟩, ⟨HO_5.out⟩, ⟨HB.out⟩⟩
          ·
           replace c13 := Bool.eq_false_iff.mpr c13
           subst c13
           have H1 : (if 0 ≤ x8_2 then (if x8_2 < (l0.length : Int) then ((spec_OwnerOf.f kj9 l0 ((rd_T25 l0 x8_2).f3)).bind fun bt681 => (if x7_2 = true then (spec_HeldUp.l1 kj9 l0 a1 x5_1 x6_1 true (wrap64 (x8_2 + 1))) else (if bt681.2.2 = true then (if bt681.1 = x6_1 then (if bt681.2.1 = a1 then ((spec_Pulled.f kj9 l0 ((rd_T25 l0 x8_2).f3) a1).bind fun t686 => (spec_HeldUp.l1 kj9 l0 a1 x5_1 x6_1 (!t686) (wrap64 (x8_2 + 1)))) else (spec_HeldUp.l1 kj9 l0 a1 x5_1 x6_1 false (wrap64 (x8_2 + 1)))) else (spec_HeldUp.l1 kj9 l0 a1 x5_1 x6_1 false (wrap64 (x8_2 + 1)))) else (spec_HeldUp.l1 kj9 l0 a1 x5_1 x6_1 false (wrap64 (x8_2 + 1)))))) else (none)) else (none)) = some r := by rw [if_neg (show ¬ (false = true) by decide)] at H; exact H
           clear H
           have H := H1
           clear H1
           by_cases c14 : 0 ≤ x8_2
           ·
            rw [if_pos c14] at H
            have c14b0 : decide (0 ≤ x8_2) = true := decide_eq_true c14
            clear c14
            by_cases c15 : x8_2 < (l0.length : Int)
            ·
             rw [if_pos c15] at H
             have c15b0 : decide (x8_2 < (l0.length : Int)) = true := decide_eq_true c15
             clear c15
             replace H := Option.bind_eq_some_iff.mp H
             obtain ⟨⟨t681, t682, t683⟩, A160, H⟩ := H
             replace H : (if x7_2 = true then (spec_HeldUp.l1 kj9 l0 a1 x5_1 x6_1 true (wrap64 (x8_2 + 1))) else (if t683 = true then (if t681 = x6_1 then (if t682 = a1 then ((spec_Pulled.f kj9 l0 ((rd_T25 l0 x8_2).f3) a1).bind fun t686 => (spec_HeldUp.l1 kj9 l0 a1 x5_1 x6_1 (!t686) (wrap64 (x8_2 + 1)))) else (spec_HeldUp.l1 kj9 l0 a1 x5_1 x6_1 false (wrap64 (x8_2 + 1)))) else (spec_HeldUp.l1 kj9 l0 a1 x5_1 x6_1 false (wrap64 (x8_2 + 1)))) else (spec_HeldUp.l1 kj9 l0 a1 x5_1 x6_1 false (wrap64 (x8_2 + 1))))) = some r := H
             have A16 := Aside0.mk A160
             clear A160
             by_cases c17 : x7_2 = true
             ·
              subst c17
              have H1 : (spec_HeldUp.l1 kj9 l0 a1 x5_1 x6_1 true (wrap64 (x8_2 + 1))) = some r := by rw [if_pos rfl] at H; exact H
              clear H
              have H := H1
              clear H1
              have H' := Aside0.mk H
              clear H
              have p680 : 0 ≤ (x8_2 : Int) := of_decide_eq_true (by assumption)
              have q680 : x8_2 < (l0.length : Int) := of_decide_eq_true (by assumption)
              obtain ⟨ad680, e680, hx680_0, hx680_1, hx680_2, hx680_3, hx680_4⟩ := at_T25 HR0.out x8_2 p680 q680
              cases e680
              replace hx680_0 := (HB.out.cell (World.block_lt_of_cell? w _ hx680_0)).trans hx680_0
              replace hx680_1 := (HB.out.cell (World.block_lt_of_cell? w _ hx680_1)).trans hx680_1
              replace hx680_2 := (HB.out.cell (World.block_lt_of_cell? w _ hx680_2)).trans hx680_2
              replace hx680_3 := (HB.out.cell (World.block_lt_of_cell? w _ hx680_3)).trans hx680_3
              replace hx680_4 := (HB.out.cell (World.block_lt_of_cell? w _ hx680_4)).trans hx680_4
              replace p680 := eq_true p680
              replace q680 := eq_true q680
              go_wp2_with (first | ((with_reducible refine gate_callee (f := 33) rfl ?_); refine goesL_ (some 48) rfl rfl Try.func33 (by kernel_rfl) rfl #[.slice (some ad680) l0.length c0, .int .i64 ((rd_T25 l0 x8_2).f3)] rfl (by (try simp only [List.map_toArray, List.map_cons, List.map_nil]); first | done | rfl | (simp only [List.length_drop, List.length_take]; rfl)) ?_; (with_reducible refine (spec_OwnerOf.calls kj9 _ _ l0 ((rd_T25 l0 x8_2).f3) t681 t682 t683 _ ?side1 ?side2 A16.out).mono ?_); (case side1 => repeat (first | exact (Kd.C_below HR0.out HB.out) | (with_reducible refine Kd.C_alloc ?_ _) | (with_reducible refine Kd.C_drewN ?_ _) | (with_reducible refine Kd.C_drew ?_))); (case side2 => exact HC0.out); rintro e w18 ⟨rfl, hb⟩; refine ⟨_, rfl, ?_⟩; have n0_ := Aside0.mk (Kd.R_below (by (with_reducible repeat (first | apply Kd.R_alloc | apply Kd.R_drewN | apply Kd.R_drew)); exact HO_5.out) hb); have n1_ := Aside0.mk (below_step (by repeat (first | (with_reducible first | exact HB.out | apply below_alloc | apply pw_below_drewN | apply below_drew1) | exact HB.out)) hb); clear HO_5; clear HB; have HO_5 := n0_; have HB := n1_; clear n0_ n1_; (try clear hb); (try clear hb2); (try clear hk); (try clear hi)) | ((with_reducible refine gate_dst (N := 9) rfl ?_); refine box_event ?hg (N := 9) ?hd (cs := #[.int .i64 0, .int .i64 0]) (t := 39) ?hr ?_; (case hd => rfl); (case hg => rfl); (case hr => first | (go_simp; done) | (go_simp; rfl)); intro gb684 hg w19 hbox hb; have n0_ := Aside0.mk (Kd.R_below (by (with_reducible repeat (first | apply Kd.R_alloc | apply Kd.R_drewN | apply Kd.R_drew)); exact HO_5.out) hb); have n1_ := Aside0.mk (below_step (by repeat (first | (with_reducible first | exact HB.out | apply below_alloc | apply pw_below_drewN | apply below_drew1) | exact HB.out)) hb); have n2_ := Aside0.mk (hbox); have n3_ := Aside0.mk ((by rw [hg]; exact (below_size (by repeat (first | (with_reducible first | exact HB.out | apply below_alloc | apply pw_below_drewN | apply below_drew1) | exact HB.out))) : w.heap.size ≤ gb684)); have n4_ := Aside0.mk ((by rw [hg]; exact (below_size (by repeat (first | (with_reducible first | exact HB.out | apply below_alloc | apply pw_below_drewN | apply below_drew1) | exact HB.out))) : w.heap.size ≤ gb684)); clear HO_5; clear HB; have HO_5 := n0_; have HB := n1_; have BK684 := n2_; have GW684 := n3_; have GE684 := n4_; clear n0_ n1_ n2_ n3_ n4_; clear hb hbox hg; have hcz20_0 : w19.cell? ⟨gb684, 0, none⟩ = some (.int .i64 0) := (blk_cell BK684.out 0).trans rfl; have hcz20_1 : w19.cell? ⟨gb684, 1, none⟩ = some (.int .i64 0) := (blk_cell BK684.out 1).trans rfl; have hfz20_0 := blk_frozen BK684.out 0; have hfz20_1 := blk_frozen BK684.out 1))
              go_roundg kj9
              case measure => have := HK1.out; have := HK2.out; have := HJ9.out; omega
              case rel => exact ⟨(true), (wrap64 (x8_2 + 1)), rfl, rfl, H', ⟨by have := HK1.out; have := HK2.out; have := HJ9.out; omega⟩, ⟨by exact Kd.R_mono (Kd.R_far (p := ⟨gb684, 1, none⟩) (Kd.R_far (p := ⟨gb684, 0, none⟩) (Kd.R_types HO_5.out BK684.out (by decide)) (fun _ hk => hk.2) (.int .i64 t681)) (fun _ hk => hk.2) (.int .i64 t682)) (fun _ hk => trivial)⟩, ⟨by repeat (first | exact HB.out | refine below_set ?_ GE684.out)⟩⟩
             ·
              replace c17 := Bool.eq_false_iff.mpr c17
              subst c17
              have H1 : (if t683 = true then (if t681 = x6_1 then (if t682 = a1 then ((spec_Pulled.f kj9 l0 ((rd_T25 l0 x8_2).f3) a1).bind fun t686 => (spec_HeldUp.l1 kj9 l0 a1 x5_1 x6_1 (!t686) (wrap64 (x8_2 + 1)))) else (spec_HeldUp.l1 kj9 l0 a1 x5_1 x6_1 false (wrap64 (x8_2 + 1)))) else (spec_HeldUp.l1 kj9 l0 a1 x5_1 x6_1 false (wrap64 (x8_2 + 1)))) else (spec_HeldUp.l1 kj9 l0 a1 x5_1 x6_1 false (wrap64 (x8_2 + 1)))) = some r := by rw [if_neg (show ¬ (false = true) by decide)] at H; exact H
              clear H
              have H := H1
              clear H1
              by_cases c21 : t683 = true
              ·
               subst c21
               have H1 : (if t681 = x6_1 then (if t682 = a1 then ((spec_Pulled.f kj9 l0 ((rd_T25 l0 x8_2).f3) a1).bind fun t686 => (spec_HeldUp.l1 kj9 l0 a1 x5_1 x6_1 (!t686) (wrap64 (x8_2 + 1)))) else (spec_HeldUp.l1 kj9 l0 a1 x5_1 x6_1 false (wrap64 (x8_2 + 1)))) else (spec_HeldUp.l1 kj9 l0 a1 x5_1 x6_1 false (wrap64 (x8_2 + 1)))) = some r := by rw [if_pos rfl] at H; exact H
               clear H
               have H := H1
               clear H1
               by_cases c22 : t681 = x6_1
               ·
                rw [if_pos c22] at H
                have c22b0 : (t681 == x6_1) = true := beq_iff_eq.mpr c22
                have c22b1 : (t681 != x6_1) = false := bne_eq_false_iff_eq.mpr c22
                clear c22
                by_cases c23 : t682 = a1
                ·
                 rw [if_pos c23] at H
                 have c23b0 : (t682 == a1) = true := beq_iff_eq.mpr c23
                 have c23b1 : (t682 != a1) = false := bne_eq_false_iff_eq.mpr c23
                 clear c23
                 replace H := Option.bind_eq_some_iff.mp H
                 obtain ⟨t686, A240, H⟩ := H
                 replace H : (spec_HeldUp.l1 kj9 l0 a1 x5_1 x6_1 (!t686) (wrap64 (x8_2 + 1))) = some r := H
                 have A24 := Aside0.mk A240
                 clear A240
                 have H' := Aside0.mk H
                 clear H
                 have p680 : 0 ≤ (x8_2 : Int) := of_decide_eq_true (by assumption)
                 have q680 : x8_2 < (l0.length : Int) := of_decide_eq_true (by assumption)
                 obtain ⟨ad680, e680, hx680_0, hx680_1, hx680_2, hx680_3, hx680_4⟩ := at_T25 HR0.out x8_2 p680 q680
                 cases e680
                 replace hx680_0 := (HB.out.cell (World.block_lt_of_cell? w _ hx680_0)).trans hx680_0
                 replace hx680_1 := (HB.out.cell (World.block_lt_of_cell? w _ hx680_1)).trans hx680_1
                 replace hx680_2 := (HB.out.cell (World.block_lt_of_cell? w _ hx680_2)).trans hx680_2
                 replace hx680_3 := (HB.out.cell (World.block_lt_of_cell? w _ hx680_3)).trans hx680_3
                 replace hx680_4 := (HB.out.cell (World.block_lt_of_cell? w _ hx680_4)).trans hx680_4
                 replace p680 := eq_true p680
                 replace q680 := eq_true q680
                 go_wp2_with (first | ((with_reducible refine gate_callee (f := 33) rfl ?_); refine goesL_ (some 48) rfl rfl Try.func33 (by kernel_rfl) rfl #[.slice (some ad680) l0.length c0, .int .i64 ((rd_T25 l0 x8_2).f3)] rfl (by (try simp only [List.map_toArray, List.map_cons, List.map_nil]); first | done | rfl | (simp only [List.length_drop, List.length_take]; rfl)) ?_; (with_reducible refine (spec_OwnerOf.calls kj9 _ _ l0 ((rd_T25 l0 x8_2).f3) t681 t682 true _ ?side1 ?side2 A16.out).mono ?_); (case side1 => repeat (first | exact (Kd.C_below HR0.out HB.out) | (with_reducible refine Kd.C_alloc ?_ _) | (with_reducible refine Kd.C_drewN ?_ _) | (with_reducible refine Kd.C_drew ?_))); (case side2 => exact HC0.out); rintro e w25 ⟨rfl, hb⟩; refine ⟨_, rfl, ?_⟩; have n0_ := Aside0.mk (Kd.R_below (by (with_reducible repeat (first | apply Kd.R_alloc | apply Kd.R_drewN | apply Kd.R_drew)); exact HO_5.out) hb); have n1_ := Aside0.mk (below_step (by repeat (first | (with_reducible first | exact HB.out | apply below_alloc | apply pw_below_drewN | apply below_drew1) | exact HB.out)) hb); clear HO_5; clear HB; have HO_5 := n0_; have HB := n1_; clear n0_ n1_; (try clear hb); (try clear hb2); (try clear hk); (try clear hi)) | ((with_reducible refine gate_dst (N := 9) rfl ?_); refine box_event ?hg (N := 9) ?hd (cs := #[.int .i64 0, .int .i64 0]) (t := 39) ?hr ?_; (case hd => rfl); (case hg => rfl); (case hr => first | (go_simp; done) | (go_simp; rfl)); intro gb684 hg w26 hbox hb; have n0_ := Aside0.mk (Kd.R_below (by (with_reducible repeat (first | apply Kd.R_alloc | apply Kd.R_drewN | apply Kd.R_drew)); exact HO_5.out) hb); have n1_ := Aside0.mk (below_step (by repeat (first | (with_reducible first | exact HB.out | apply below_alloc | apply pw_below_drewN | apply below_drew1) | exact HB.out)) hb); have n2_ := Aside0.mk (hbox); have n3_ := Aside0.mk ((by rw [hg]; exact (below_size (by repeat (first | (with_reducible first | exact HB.out | apply below_alloc | apply pw_below_drewN | apply below_drew1) | exact HB.out))) : w.heap.size ≤ gb684)); have n4_ := Aside0.mk ((by rw [hg]; exact (below_size (by repeat (first | (with_reducible first | exact HB.out | apply below_alloc | apply pw_below_drewN | apply below_drew1) | exact HB.out))) : w.heap.size ≤ gb684)); clear HO_5; clear HB; have HO_5 := n0_; have HB := n1_; have BK684 := n2_; have GW684 := n3_; have GE684 := n4_; clear n0_ n1_ n2_ n3_ n4_; clear hb hbox hg; have hcz27_0 : w26.cell? ⟨gb684, 0, none⟩ = some (.int .i64 0) := (blk_cell BK684.out 0).trans rfl; have hcz27_1 : w26.cell? ⟨gb684, 1, none⟩ = some (.int .i64 0) := (blk_cell BK684.out 1).trans rfl; have hfz27_0 := blk_frozen BK684.out 0; have hfz27_1 := blk_frozen BK684.out 1; have p685 : 0 ≤ (x8_2 : Int) := of_decide_eq_true (by first | (with_reducible assumption) | assumption); have q685 : x8_2 < (l0.length : Int) := of_decide_eq_true (by first | (with_reducible assumption) | assumption); obtain ⟨ad685, e685, hx685_0, hx685_1, hx685_2, hx685_3, hx685_4⟩ := at_T25 HR0.out x8_2 p685 q685; obtain rfl : ad680 = ad685 := (by injection e685); have hn685_0 : ad680.block ≠ gb684 := Nat.ne_of_lt (Nat.lt_of_lt_of_le (by have := World.block_lt_of_cell? _ _ hx685_0; first | rwa [add_block] at this | exact this) GW684.out); have hn685_1 : ad680.block ≠ gb684 := Nat.ne_of_lt (Nat.lt_of_lt_of_le (by have := World.block_lt_of_cell? _ _ hx685_0; first | rwa [add_block] at this | exact this) GW684.out); replace hx685_0 := (HB.out.cell (World.block_lt_of_cell? w _ hx685_0)).trans hx685_0; replace hx685_1 := (HB.out.cell (World.block_lt_of_cell? w _ hx685_1)).trans hx685_1; replace hx685_2 := (HB.out.cell (World.block_lt_of_cell? w _ hx685_2)).trans hx685_2; replace hx685_3 := (HB.out.cell (World.block_lt_of_cell? w _ hx685_3)).trans hx685_3; replace hx685_4 := (HB.out.cell (World.block_lt_of_cell? w _ hx685_4)).trans hx685_4; replace hx685_0 := (cell_far (p := ⟨gb684, 0, none⟩) (by first | (rw [add_block]; exact hn685_0) | (show (Addr.add _ _).block ≠ _; rw [add_block]; exact hn685_0) | exact hn685_0) (.int .i64 t681)).trans hx685_0; replace hx685_1 := (cell_far (p := ⟨gb684, 0, none⟩) (by first | (rw [add_block]; exact hn685_0) | (show (Addr.add _ _).block ≠ _; rw [add_block]; exact hn685_0) | exact hn685_0) (.int .i64 t681)).trans hx685_1; replace hx685_2 := (cell_far (p := ⟨gb684, 0, none⟩) (by first | (rw [add_block]; exact hn685_0) | (show (Addr.add _ _).block ≠ _; rw [add_block]; exact hn685_0) | exact hn685_0) (.int .i64 t681)).trans hx685_2; replace hx685_3 := (cell_far (p := ⟨gb684, 0, none⟩) (by first | (rw [add_block]; exact hn685_0) | (show (Addr.add _ _).block ≠ _; rw [add_block]; exact hn685_0) | exact hn685_0) (.int .i64 t681)).trans hx685_3; replace hx685_4 := (cell_far (p := ⟨gb684, 0, none⟩) (by first | (rw [add_block]; exact hn685_0) | (show (Addr.add _ _).block ≠ _; rw [add_block]; exact hn685_0) | exact hn685_0) (.int .i64 t681)).trans hx685_4; replace hx685_0 := (cell_far (p := ⟨gb684, 1, none⟩) (by first | (rw [add_block]; exact hn685_1) | (show (Addr.add _ _).block ≠ _; rw [add_block]; exact hn685_1) | exact hn685_1) (.int .i64 t682)).trans hx685_0; replace hx685_1 := (cell_far (p := ⟨gb684, 1, none⟩) (by first | (rw [add_block]; exact hn685_1) | (show (Addr.add _ _).block ≠ _; rw [add_block]; exact hn685_1) | exact hn685_1) (.int .i64 t682)).trans hx685_1; replace hx685_2 := (cell_far (p := ⟨gb684, 1, none⟩) (by first | (rw [add_block]; exact hn685_1) | (show (Addr.add _ _).block ≠ _; rw [add_block]; exact hn685_1) | exact hn685_1) (.int .i64 t682)).trans hx685_2; replace hx685_3 := (cell_far (p := ⟨gb684, 1, none⟩) (by first | (rw [add_block]; exact hn685_1) | (show (Addr.add _ _).block ≠ _; rw [add_block]; exact hn685_1) | exact hn685_1) (.int .i64 t682)).trans hx685_3; replace hx685_4 := (cell_far (p := ⟨gb684, 1, none⟩) (by first | (rw [add_block]; exact hn685_1) | (show (Addr.add _ _).block ≠ _; rw [add_block]; exact hn685_1) | exact hn685_1) (.int .i64 t682)).trans hx685_4; clear hn685_0; clear hn685_1; replace p685 := eq_true p685; replace q685 := eq_true q685) | (go_at_call 31; (with_reducible refine (spec_Pulled.calls kj9 _ _ l0 ((rd_T25 l0 x8_2).f3) a1 t686 _ ?side1 ?side2 A24.out).mono ?_); (case side1 => exact Kd.C_below HR0.out (by repeat (first | (with_reducible first | exact HB.out | apply below_alloc | apply pw_below_drewN | apply below_drew1 | refine below_set ?_ GE684.out) | exact HB.out))); (case side2 => exact HC0.out); rintro e w28 ⟨rfl, hb⟩; have n0_ := Aside0.mk (Kd.R_below (by (with_reducible repeat (first | apply Kd.R_alloc | apply Kd.R_drewN | apply Kd.R_drew)); exact (Kd.R_mono (Kd.R_far (p := ⟨gb684, 1, none⟩) (Kd.R_far (p := ⟨gb684, 0, none⟩) (Kd.R_types HO_5.out BK684.out (by decide)) (fun _ hk => hk.2) (.int .i64 t681)) (fun _ hk => hk.2) (.int .i64 t682)) (fun _ h_ => h_.1))) hb); have n1_ := Aside0.mk (blk_below (g := gb684) (o := .cells #[.int .i64 t681, .int .i64 t682] 39 (0, 0)) (by (with_reducible repeat (first | refine blk_drewN ?_ _ | refine blk_drew ?_ | refine blk_alloc ?_ _)); refine blk_put (cs := #[.int .i64 t681, .int .i64 0]) ?_ 1 _ rfl; (with_reducible repeat (first | refine blk_drewN ?_ _ | refine blk_drew ?_ | refine blk_alloc ?_ _)); refine blk_put (cs := #[.int .i64 0, .int .i64 0]) ?_ 0 _ rfl; (with_reducible repeat (first | refine blk_drewN ?_ _ | refine blk_drew ?_ | refine blk_alloc ?_ _)); exact BK684.out) hb); have n2_ := Aside0.mk (below_step (by repeat (first | (with_reducible first | exact HB.out | apply below_alloc | apply pw_below_drewN | apply below_drew1 | refine below_set ?_ GE684.out) | exact HB.out)) hb); clear HO_5; clear BK684; clear HB; have HO_5 := n0_; have BK684 := n1_; have HB := n2_; clear n0_ n1_ n2_; (try clear hb); (try clear hb2); (try clear hk); (try clear hi)))
                 go_roundg kj9
                 case measure => have := HK1.out; have := HK2.out; have := HJ9.out; omega
                 case rel => exact ⟨(!t686), (wrap64 (x8_2 + 1)), rfl, rfl, H', ⟨by have := HK1.out; have := HK2.out; have := HJ9.out; omega⟩, ⟨HO_5.out⟩, ⟨by repeat (first | exact HB.out | refine below_set ?_ GE684.out)⟩⟩
                ·
                 rw [if_neg c23] at H
                 have c23b0 : (t682 == a1) = false := beq_eq_false_iff_ne.mpr c23
                 have c23b1 : (t682 != a1) = true := bne_iff_ne.mpr c23
                 have H' := Aside0.mk H
                 clear H
                 have p680 : 0 ≤ (x8_2 : Int) := of_decide_eq_true (by assumption)
                 have q680 : x8_2 < (l0.length : Int) := of_decide_eq_true (by assumption)
                 obtain ⟨ad680, e680, hx680_0, hx680_1, hx680_2, hx680_3, hx680_4⟩ := at_T25 HR0.out x8_2 p680 q680
                 cases e680
                 replace hx680_0 := (HB.out.cell (World.block_lt_of_cell? w _ hx680_0)).trans hx680_0
                 replace hx680_1 := (HB.out.cell (World.block_lt_of_cell? w _ hx680_1)).trans hx680_1
                 replace hx680_2 := (HB.out.cell (World.block_lt_of_cell? w _ hx680_2)).trans hx680_2
                 replace hx680_3 := (HB.out.cell (World.block_lt_of_cell? w _ hx680_3)).trans hx680_3
                 replace hx680_4 := (HB.out.cell (World.block_lt_of_cell? w _ hx680_4)).trans hx680_4
                 replace p680 := eq_true p680
                 replace q680 := eq_true q680
                 go_wp2_with (first | ((with_reducible refine gate_callee (f := 33) rfl ?_); refine goesL_ (some 48) rfl rfl Try.func33 (by kernel_rfl) rfl #[.slice (some ad680) l0.length c0, .int .i64 ((rd_T25 l0 x8_2).f3)] rfl (by (try simp only [List.map_toArray, List.map_cons, List.map_nil]); first | done | rfl | (simp only [List.length_drop, List.length_take]; rfl)) ?_; (with_reducible refine (spec_OwnerOf.calls kj9 _ _ l0 ((rd_T25 l0 x8_2).f3) t681 t682 true _ ?side1 ?side2 A16.out).mono ?_); (case side1 => repeat (first | exact (Kd.C_below HR0.out HB.out) | (with_reducible refine Kd.C_alloc ?_ _) | (with_reducible refine Kd.C_drewN ?_ _) | (with_reducible refine Kd.C_drew ?_))); (case side2 => exact HC0.out); rintro e w29 ⟨rfl, hb⟩; refine ⟨_, rfl, ?_⟩; have n0_ := Aside0.mk (Kd.R_below (by (with_reducible repeat (first | apply Kd.R_alloc | apply Kd.R_drewN | apply Kd.R_drew)); exact HO_5.out) hb); have n1_ := Aside0.mk (below_step (by repeat (first | (with_reducible first | exact HB.out | apply below_alloc | apply pw_below_drewN | apply below_drew1) | exact HB.out)) hb); clear HO_5; clear HB; have HO_5 := n0_; have HB := n1_; clear n0_ n1_; (try clear hb); (try clear hb2); (try clear hk); (try clear hi)) | ((with_reducible refine gate_dst (N := 9) rfl ?_); refine box_event ?hg (N := 9) ?hd (cs := #[.int .i64 0, .int .i64 0]) (t := 39) ?hr ?_; (case hd => rfl); (case hg => rfl); (case hr => first | (go_simp; done) | (go_simp; rfl)); intro gb684 hg w30 hbox hb; have n0_ := Aside0.mk (Kd.R_below (by (with_reducible repeat (first | apply Kd.R_alloc | apply Kd.R_drewN | apply Kd.R_drew)); exact HO_5.out) hb); have n1_ := Aside0.mk (below_step (by repeat (first | (with_reducible first | exact HB.out | apply below_alloc | apply pw_below_drewN | apply below_drew1) | exact HB.out)) hb); have n2_ := Aside0.mk (hbox); have n3_ := Aside0.mk ((by rw [hg]; exact (below_size (by repeat (first | (with_reducible first | exact HB.out | apply below_alloc | apply pw_below_drewN | apply below_drew1) | exact HB.out))) : w.heap.size ≤ gb684)); have n4_ := Aside0.mk ((by rw [hg]; exact (below_size (by repeat (first | (with_reducible first | exact HB.out | apply below_alloc | apply pw_below_drewN | apply below_drew1) | exact HB.out))) : w.heap.size ≤ gb684)); clear HO_5; clear HB; have HO_5 := n0_; have HB := n1_; have BK684 := n2_; have GW684 := n3_; have GE684 := n4_; clear n0_ n1_ n2_ n3_ n4_; clear hb hbox hg; have hcz31_0 : w30.cell? ⟨gb684, 0, none⟩ = some (.int .i64 0) := (blk_cell BK684.out 0).trans rfl; have hcz31_1 : w30.cell? ⟨gb684, 1, none⟩ = some (.int .i64 0) := (blk_cell BK684.out 1).trans rfl; have hfz31_0 := blk_frozen BK684.out 0; have hfz31_1 := blk_frozen BK684.out 1))
                 go_roundg kj9
                 case measure => have := HK1.out; have := HK2.out; have := HJ9.out; omega
                 case rel => exact ⟨(false), (wrap64 (x8_2 + 1)), rfl, rfl, H', ⟨by have := HK1.out; have := HK2.out; have := HJ9.out; omega⟩, ⟨by exact Kd.R_mono (Kd.R_far (p := ⟨gb684, 1, none⟩) (Kd.R_far (p := ⟨gb684, 0, none⟩) (Kd.R_types HO_5.out BK684.out (by decide)) (fun _ hk => hk.2) (.int .i64 t681)) (fun _ hk => hk.2) (.int .i64 t682)) (fun _ hk => trivial)⟩, ⟨by repeat (first | exact HB.out | refine below_set ?_ GE684.out)⟩⟩
               ·
                rw [if_neg c22] at H
                have c22b0 : (t681 == x6_1) = false := beq_eq_false_iff_ne.mpr c22
                have c22b1 : (t681 != x6_1) = true := bne_iff_ne.mpr c22
                have H' := Aside0.mk H
                clear H
                have p680 : 0 ≤ (x8_2 : Int) := of_decide_eq_true (by assumption)
                have q680 : x8_2 < (l0.length : Int) := of_decide_eq_true (by assumption)
                obtain ⟨ad680, e680, hx680_0, hx680_1, hx680_2, hx680_3, hx680_4⟩ := at_T25 HR0.out x8_2 p680 q680
                cases e680
                replace hx680_0 := (HB.out.cell (World.block_lt_of_cell? w _ hx680_0)).trans hx680_0
                replace hx680_1 := (HB.out.cell (World.block_lt_of_cell? w _ hx680_1)).trans hx680_1
                replace hx680_2 := (HB.out.cell (World.block_lt_of_cell? w _ hx680_2)).trans hx680_2
                replace hx680_3 := (HB.out.cell (World.block_lt_of_cell? w _ hx680_3)).trans hx680_3
                replace hx680_4 := (HB.out.cell (World.block_lt_of_cell? w _ hx680_4)).trans hx680_4
                replace p680 := eq_true p680
                replace q680 := eq_true q680
                go_wp2_with (first | ((with_reducible refine gate_callee (f := 33) rfl ?_); refine goesL_ (some 48) rfl rfl Try.func33 (by kernel_rfl) rfl #[.slice (some ad680) l0.length c0, .int .i64 ((rd_T25 l0 x8_2).f3)] rfl (by (try simp only [List.map_toArray, List.map_cons, List.map_nil]); first | done | rfl | (simp only [List.length_drop, List.length_take]; rfl)) ?_; (with_reducible refine (spec_OwnerOf.calls kj9 _ _ l0 ((rd_T25 l0 x8_2).f3) t681 t682 true _ ?side1 ?side2 A16.out).mono ?_); (case side1 => repeat (first | exact (Kd.C_below HR0.out HB.out) | (with_reducible refine Kd.C_alloc ?_ _) | (with_reducible refine Kd.C_drewN ?_ _) | (with_reducible refine Kd.C_drew ?_))); (case side2 => exact HC0.out); rintro e w32 ⟨rfl, hb⟩; refine ⟨_, rfl, ?_⟩; have n0_ := Aside0.mk (Kd.R_below (by (with_reducible repeat (first | apply Kd.R_alloc | apply Kd.R_drewN | apply Kd.R_drew)); exact HO_5.out) hb); have n1_ := Aside0.mk (below_step (by repeat (first | (with_reducible first | exact HB.out | apply below_alloc | apply pw_below_drewN | apply below_drew1) | exact HB.out)) hb); clear HO_5; clear HB; have HO_5 := n0_; have HB := n1_; clear n0_ n1_; (try clear hb); (try clear hb2); (try clear hk); (try clear hi)) | ((with_reducible refine gate_dst (N := 9) rfl ?_); refine box_event ?hg (N := 9) ?hd (cs := #[.int .i64 0, .int .i64 0]) (t := 39) ?hr ?_; (case hd => rfl); (case hg => rfl); (case hr => first | (go_simp; done) | (go_simp; rfl)); intro gb684 hg w33 hbox hb; have n0_ := Aside0.mk (Kd.R_below (by (with_reducible repeat (first | apply Kd.R_alloc | apply Kd.R_drewN | apply Kd.R_drew)); exact HO_5.out) hb); have n1_ := Aside0.mk (below_step (by repeat (first | (with_reducible first | exact HB.out | apply below_alloc | apply pw_below_drewN | apply below_drew1) | exact HB.out)) hb); have n2_ := Aside0.mk (hbox); have n3_ := Aside0.mk ((by rw [hg]; exact (below_size (by repeat (first | (with_reducible first | exact HB.out | apply below_alloc | apply pw_below_drewN | apply below_drew1) | exact HB.out))) : w.heap.size ≤ gb684)); have n4_ := Aside0.mk ((by rw [hg]; exact (below_size (by repeat (first | (with_reducible first | exact HB.out | apply below_alloc | apply pw_below_drewN | apply below_drew1) | exact HB.out))) : w.heap.size ≤ gb684)); clear HO_5; clear HB; have HO_5 := n0_; have HB := n1_; have BK684 := n2_; have GW684 := n3_; have GE684 := n4_; clear n0_ n1_ n2_ n3_ n4_; clear hb hbox hg; have hcz34_0 : w33.cell? ⟨gb684, 0, none⟩ = some (.int .i64 0) := (blk_cell BK684.out 0).trans rfl; have hcz34_1 : w33.cell? ⟨gb684, 1, none⟩ = some (.int .i64 0) := (blk_cell BK684.out 1).trans rfl; have hfz34_0 := blk_frozen BK684.out 0; have hfz34_1 := blk_frozen BK684.out 1))
                go_roundg kj9
                case measure => have := HK1.out; have := HK2.out; have := HJ9.out; omega
                case rel => exact ⟨(false), (wrap64 (x8_2 + 1)), rfl, rfl, H', ⟨by have := HK1.out; have := HK2.out; have := HJ9.out; omega⟩, ⟨by exact Kd.R_mono (Kd.R_far (p := ⟨gb684, 1, none⟩) (Kd.R_far (p := ⟨gb684, 0, none⟩) (Kd.R_types HO_5.out BK684.out (by decide)) (fun _ hk => hk.2) (.int .i64 t681)) (fun _ hk => hk.2) (.int .i64 t682)) (fun _ hk => trivial)⟩, ⟨by repeat (first | exact HB.out | refine below_set ?_ GE684.out)⟩⟩
              ·
               replace c21 := Bool.eq_false_iff.mpr c21
               subst c21
               have H1 : (spec_HeldUp.l1 kj9 l0 a1 x5_1 x6_1 false (wrap64 (x8_2 + 1))) = some r := by rw [if_neg (show ¬ (false = true) by decide)] at H; exact H
               clear H
               have H := H1
               clear H1
               have H' := Aside0.mk H
               clear H
               have p680 : 0 ≤ (x8_2 : Int) := of_decide_eq_true (by assumption)
               have q680 : x8_2 < (l0.length : Int) := of_decide_eq_true (by assumption)
               obtain ⟨ad680, e680, hx680_0, hx680_1, hx680_2, hx680_3, hx680_4⟩ := at_T25 HR0.out x8_2 p680 q680
               cases e680
               replace hx680_0 := (HB.out.cell (World.block_lt_of_cell? w _ hx680_0)).trans hx680_0
               replace hx680_1 := (HB.out.cell (World.block_lt_of_cell? w _ hx680_1)).trans hx680_1
               replace hx680_2 := (HB.out.cell (World.block_lt_of_cell? w _ hx680_2)).trans hx680_2
               replace hx680_3 := (HB.out.cell (World.block_lt_of_cell? w _ hx680_3)).trans hx680_3
               replace hx680_4 := (HB.out.cell (World.block_lt_of_cell? w _ hx680_4)).trans hx680_4
               replace p680 := eq_true p680
               replace q680 := eq_true q680
               go_wp2_with (first | ((with_reducible refine gate_callee (f := 33) rfl ?_); refine goesL_ (some 48) rfl rfl Try.func33 (by kernel_rfl) rfl #[.slice (some ad680) l0.length c0, .int .i64 ((rd_T25 l0 x8_2).f3)] rfl (by (try simp only [List.map_toArray, List.map_cons, List.map_nil]); first | done | rfl | (simp only [List.length_drop, List.length_take]; rfl)) ?_; (with_reducible refine (spec_OwnerOf.calls kj9 _ _ l0 ((rd_T25 l0 x8_2).f3) t681 t682 false _ ?side1 ?side2 A16.out).mono ?_); (case side1 => repeat (first | exact (Kd.C_below HR0.out HB.out) | (with_reducible refine Kd.C_alloc ?_ _) | (with_reducible refine Kd.C_drewN ?_ _) | (with_reducible refine Kd.C_drew ?_))); (case side2 => exact HC0.out); rintro e w35 ⟨rfl, hb⟩; refine ⟨_, rfl, ?_⟩; have n0_ := Aside0.mk (Kd.R_below (by (with_reducible repeat (first | apply Kd.R_alloc | apply Kd.R_drewN | apply Kd.R_drew)); exact HO_5.out) hb); have n1_ := Aside0.mk (below_step (by repeat (first | (with_reducible first | exact HB.out | apply below_alloc | apply pw_below_drewN | apply below_drew1) | exact HB.out)) hb); clear HO_5; clear HB; have HO_5 := n0_; have HB := n1_; clear n0_ n1_; (try clear hb); (try clear hb2); (try clear hk); (try clear hi)) | ((with_reducible refine gate_dst (N := 9) rfl ?_); refine box_event ?hg (N := 9) ?hd (cs := #[.int .i64 0, .int .i64 0]) (t := 39) ?hr ?_; (case hd => rfl); (case hg => rfl); (case hr => first | (go_simp; done) | (go_simp; rfl)); intro gb684 hg w36 hbox hb; have n0_ := Aside0.mk (Kd.R_below (by (with_reducible repeat (first | apply Kd.R_alloc | apply Kd.R_drewN | apply Kd.R_drew)); exact HO_5.out) hb); have n1_ := Aside0.mk (below_step (by repeat (first | (with_reducible first | exact HB.out | apply below_alloc | apply pw_below_drewN | apply below_drew1) | exact HB.out)) hb); have n2_ := Aside0.mk (hbox); have n3_ := Aside0.mk ((by rw [hg]; exact (below_size (by repeat (first | (with_reducible first | exact HB.out | apply below_alloc | apply pw_below_drewN | apply below_drew1) | exact HB.out))) : w.heap.size ≤ gb684)); have n4_ := Aside0.mk ((by rw [hg]; exact (below_size (by repeat (first | (with_reducible first | exact HB.out | apply below_alloc | apply pw_below_drewN | apply below_drew1) | exact HB.out))) : w.heap.size ≤ gb684)); clear HO_5; clear HB; have HO_5 := n0_; have HB := n1_; have BK684 := n2_; have GW684 := n3_; have GE684 := n4_; clear n0_ n1_ n2_ n3_ n4_; clear hb hbox hg; have hcz37_0 : w36.cell? ⟨gb684, 0, none⟩ = some (.int .i64 0) := (blk_cell BK684.out 0).trans rfl; have hcz37_1 : w36.cell? ⟨gb684, 1, none⟩ = some (.int .i64 0) := (blk_cell BK684.out 1).trans rfl; have hfz37_0 := blk_frozen BK684.out 0; have hfz37_1 := blk_frozen BK684.out 1))
               go_roundg kj9
               case measure => have := HK1.out; have := HK2.out; have := HJ9.out; omega
               case rel => exact ⟨(false), (wrap64 (x8_2 + 1)), rfl, rfl, H', ⟨by have := HK1.out; have := HK2.out; have := HJ9.out; omega⟩, ⟨by exact Kd.R_mono (Kd.R_far (p := ⟨gb684, 1, none⟩) (Kd.R_far (p := ⟨gb684, 0, none⟩) (Kd.R_types HO_5.out BK684.out (by decide)) (fun _ hk => hk.2) (.int .i64 t681)) (fun _ hk => hk.2) (.int .i64 t682)) (fun _ hk => trivial)⟩, ⟨by repeat (first | exact HB.out | refine below_set ?_ GE684.out)⟩⟩
            ·
             rw [if_neg c15] at H
             exact absurd H (by simp)
           ·
            rw [if_neg c14] at H
            exact absurd H (by simp)
       ·
        rw [if_neg c9] at H
        have c9b0 : decide (x8_2 < (l0.length : Int)) = false := decide_eq_false c9
        clear c9
        by_cases c38 : x7_2 = true
        ·
         subst c38
         have H1 : ((spec_Aboard.f k2 l0 x6_1 a1).bind fun t674 => (if t674 = true then (spec_HeldUp.l0 k2 l0 a1 x5_1 (wrap64 (x6_1 + 1))) else (if x5_1.length < 17592186044416 then (spec_HeldUp.l0 k2 l0 a1 (x5_1 ++ [x6_1]) (wrap64 (x6_1 + 1))) else (none)))) = some r := by rw [if_pos rfl] at H; exact H
         clear H
         have H := H1
         clear H1
         replace H := Option.bind_eq_some_iff.mp H
         obtain ⟨t674, A390, H⟩ := H
         replace H : (if t674 = true then (spec_HeldUp.l0 k2 l0 a1 x5_1 (wrap64 (x6_1 + 1))) else (if x5_1.length < 17592186044416 then (spec_HeldUp.l0 k2 l0 a1 (x5_1 ++ [x6_1]) (wrap64 (x6_1 + 1))) else (none))) = some r := H
         have A39 := Aside0.mk A390
         clear A390
         by_cases c40 : t674 = true
         ·
          subst c40
          have H1 : (spec_HeldUp.l0 k2 l0 a1 x5_1 (wrap64 (x6_1 + 1))) = some r := by rw [if_pos rfl] at H; exact H
          clear H
          have H := H1
          clear H1
          have H' := Aside0.mk H
          clear H
          go_wp2_with (first | (go_at_call 29; (with_reducible refine (spec_Aboard.calls k2 _ _ l0 x6_1 a1 true _ ?side1 ?side2 A39.out).mono ?_); (case side1 => exact (Kd.C_below HR0.out HB.out))); (case side2 => exact HC0.out); rintro e w41 ⟨rfl, hb⟩; have n0_ := Aside0.mk (Kd.R_below HO_5.out hb); have n1_ := Aside0.mk (below_step HB.out hb); clear HO_5; clear HB; have HO_5 := n0_; have HB := n1_; clear n0_ n1_; (try clear hb); (try clear hb2); (try clear hk); (try clear hi))
          go_roundg k2
          case measure => have := HK1.out; have := HK2.out; omega
          case rel => exact ⟨(x5_1), (wrap64 (x6_1 + 1)), rfl, H', ⟨by have := HK1.out; have := HK2.out; omega⟩, ⟨HO_5.out⟩, ⟨HB.out⟩⟩
         ·
          replace c40 := Bool.eq_false_iff.mpr c40
          subst c40
          have H1 : (if x5_1.length < 17592186044416 then (spec_HeldUp.l0 k2 l0 a1 (x5_1 ++ [x6_1]) (wrap64 (x6_1 + 1))) else (none)) = some r := by rw [if_neg (show ¬ (false = true) by decide)] at H; exact H
          clear H
          have H := H1
          clear H1
          by_cases c42 : x5_1.length < 17592186044416
          ·
           rw [if_pos c42] at H
           have LMc42 := Aside0.mk c42
           clear c42
           obtain ⟨y675, hy675⟩ : ∃ y_ : List Int, y_ = (x5_1 ++ [x6_1]) := ⟨_, rfl⟩
           replace H : (spec_HeldUp.l0 k2 l0 a1 y675 (wrap64 (x6_1 + 1))) = some r := by rw [hy675]; exact H
           have Ny675 := Aside0.mk hy675
           clear hy675
           have H' := Aside0.mk H
           clear H
           go_wp2_with (first | (go_at_call 29; (with_reducible refine (spec_Aboard.calls k2 _ _ l0 x6_1 a1 false _ ?side1 ?side2 A39.out).mono ?_); (case side1 => exact (Kd.C_below HR0.out HB.out))); (case side2 => exact HC0.out); rintro e w43 ⟨rfl, hb⟩; have n0_ := Aside0.mk (Kd.R_below HO_5.out hb); have n1_ := Aside0.mk (below_step HB.out hb); clear HO_5; clear HB; have HO_5 := n0_; have HB := n1_; clear n0_ n1_; (try clear hb); (try clear hb2); (try clear hk); (try clear hi) | ((with_reducible refine gate_builtin (b := .append) (xs := #[.tmp 86, .tmp 88]) rfl ?_); at_builtin; refine Kd.R_append (Kd.int .i64) (w0 := w) w.heap.size rfl (.tmp 86) (.tmp 88) 47 3 (.int .i64 0) 8 rfl Try.underlying47 info3 rfl (by decide) (by omega) u5 x5_1 x6_1 [.int .i64 x6_1] (fun _ => True) (fun _ => False) rfl rfl ?aP (fun _ hk => hk.elim) ?aF ?aO ?aB ?aS ?aL ?_; (case aP => exact rfl); (case aB => exact HB.out); (case aF => exact (fun _ _ => trivial)); (case aO => exact HO_5.out); (case aS => exact (below_size HB.out)); (case aL => have := LMc42.out; omega); intro v676 w44 ho hb hg hat; rw [← Ny675.out] at ho; have n0_ := Aside0.mk (hb); have n1_ := Aside0.mk (ho); clear HB; clear HO_5; have HB := n0_; have HO677 := n1_; clear n0_ n1_; clear ho hb hg hat))
           go_roundg k2
           case measure => have := HK1.out; have := HK2.out; omega
           case rel => exact ⟨(y675), (wrap64 (x6_1 + 1)), rfl, H', ⟨by have := HK1.out; have := HK2.out; omega⟩, ⟨HO677.out⟩, ⟨HB.out⟩⟩
          ·
           rw [if_neg c42] at H
           exact absurd H (by simp)
        ·
         replace c38 := Bool.eq_false_iff.mpr c38
         subst c38
         have H1 : (spec_HeldUp.l0 k2 l0 a1 x5_1 (wrap64 (x6_1 + 1))) = some r := by rw [if_neg (show ¬ (false = true) by decide)] at H; exact H
         clear H
         have H := H1
         clear H1
         have H' := Aside0.mk H
         clear H
         go_wp2
         go_roundg k2
         case measure => have := HK1.out; have := HK2.out; omega
         case rel => exact ⟨(x5_1), (wrap64 (x6_1 + 1)), rfl, H', ⟨by have := HK1.out; have := HK2.out; omega⟩, ⟨HO_5.out⟩, ⟨HB.out⟩⟩
    ·
     rw [if_neg c8] at H
     have c8b0 : decide (x6_1 ≤ 1000) = false := decide_eq_false c8
     clear c8
     obtain rfl := Option.some.inj H
     go_wp2
     go_ret
     exact ⟨_, rfl, by exact HO_5.out, by exact HB.out⟩
 ·
  replace c4 := Bool.eq_false_iff.mpr c4
  subst c4
  have H1 : (some y670) = some r := by rw [if_neg (show ¬ (false = true) by decide)] at H; exact H
  clear H
  have H := H1
  clear H1
  obtain rfl := Option.some.inj H
  go_enter Try.func53, Try.ntmps53
  go_wp2_with (first | ((with_reducible refine gate_dst (N := 11) rfl ?_); refine Kd.R_lit (Kd.int .i64) _ 3 ?hg (N := 11) ?hd (xs := ([] : List Int)) (inner := []) (ok := fun _ => True) (okp := fun _ => True) ?hr ?hp (fun _ hk => hk) trivial (Below.refl _ _) (Nat.le_refl _) (by simp) ?_; (case hd => rfl); (case hg => rfl); (case hr => first | (go_simp; done) | (go_simp; rfl)); (case hp => exact (Reps.none _ _)); intro v671 w45 ho46 hb hg_ hnew_; clear hg_ hnew_; (first | rw [← Ny670.out] at ho46 | (simp only [Int.reduceToNat] at ho46; rw [← Ny670.out] at ho46)); have n0_ := Aside0.mk (Kd.R_lower ho46 (below_size (by repeat (first | (with_reducible first | exact HB.out | apply below_alloc | apply pw_below_drewN | apply below_drew1) | exact HB.out)))); have n1_ := Aside0.mk (below_step (by repeat (first | (with_reducible first | exact HB.out | apply below_alloc | apply pw_below_drewN | apply below_drew1) | exact HB.out)) hb); clear HB; have HO672 := n0_; have HB := n1_; clear n0_ n1_; clear hb ho46) | ((with_reducible refine gate_callee (f := 23) rfl ?_); refine goesL_ (some 13) rfl rfl Try.func23 (by kernel_rfl) rfl #[.slice A0 l0.length c0] rfl (by (try simp only [List.map_toArray, List.map_cons, List.map_nil]); first | done | rfl | (simp only [List.length_drop, List.length_take]; rfl)) ?_; (with_reducible refine (spec_NotesOk.calls k _ _ l0 false _ ?side1 ?side2 A3.out).mono ?_); (case side1 => repeat (first | exact (Kd.C_below HR0.out HB.out) | (with_reducible refine Kd.C_alloc ?_ _) | (with_reducible refine Kd.C_drewN ?_ _) | (with_reducible refine Kd.C_drew ?_))); (case side2 => exact HC0.out); rintro e w47 ⟨rfl, hb⟩; refine ⟨_, rfl, ?_⟩; have n0_ := Aside0.mk (Kd.R_below (by (with_reducible repeat (first | apply Kd.R_alloc | apply Kd.R_drewN | apply Kd.R_drew)); exact HO672.out) hb); have n1_ := Aside0.mk (below_step (by repeat (first | (with_reducible first | exact HB.out | apply below_alloc | apply pw_below_drewN | apply below_drew1) | exact HB.out)) hb); clear HO672; clear HB; have HO672 := n0_; have HB := n1_; clear n0_ n1_; (try clear hb); (try clear hb2); (try clear hk); (try clear hi)))
  go_ret
  exact ⟨_, rfl, by exact HO672.out, by exact HB.out⟩

end Go.Proofs.Ytppojihmllmgnaa.F

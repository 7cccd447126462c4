-- PRINTED by print.py (a twelfth state) out of the translation. Not trusted: Lean checks it.
import Derived.Test.YtnldmnlfocigaaaF
import Derived.Test.YtnldmnlfocigaaaF35
import Derived.Test.YtnldmnlfocigaaaF52
import Derived.Test.YtnldmnlfocigaaaFC82x81
namespace Go.Proofs.Ytnldmnlfocigaaa.F
open Go.Proofs.Ytnldmnlfocigaaa.Opn
open Go.RowKit Go.Proofs.YtnldmnlfocigaaaW.PrintWords Go.Proofs.YtnldmnlfocigaaaW.PrintLast
set_option linter.unusedVariables false
set_option linter.unusedSimpArgs false

/-! ### impl_FirstFit: function 45 -/
mutual
def impl_FirstFit.j0 : Nat → List (S80) → Bool → Int → Int → Option ((List (S62)))
  | 0, _, _, _, _ => none
  | k + 1, x1, x16, x753000, x753001 => if x16 = true then (some ([] : List (S62))) else (impl_FirstFit.l0 k ([] : List (S62)) x1 (x1.length : Int) 0 x753000 x753001)
def impl_FirstFit.l0 : Nat → List (S62) → List (S80) → Int → Int → Int → Int → Option ((List (S62)))
  | 0, _, _, _, _, _, _ => none
  | k + 1, x5, x17, x18, x19, x753000, x753001 => if x19 < x18 then (if 0 ≤ x19 then (if x19 < (x17.length : Int) then ((impl_FirstFit_1__slices_IndexFunc_impl_Box.f x5 ((rd_T80 x17 x19).f0) ((rd_T80 x17 x19).f1) ((rd_T80 x17 x19).f2) x753000 x753001).bind fun t757 => (if t757 < 0 then (if x5.length < 3518437208883 then ((some (x5 ++ [(⟨(rd_T80 x17 x19).f2, 0, ([] : List Int)⟩ : S62)] : List (S62))).bind fun y758 => (if 0 ≤ (x5.length : Int) then (if (x5.length : Int) < (y758.length : Int) then ((some (y758.set ((x5.length : Int) : Int).toNat (⟨(rd_T62 y758 (x5.length : Int)).f0, wrap64 (((rd_T62 y758 (x5.length : Int)).f1) + ((rd_T80 x17 x19).f1)), (rd_T62 y758 (x5.length : Int)).f2⟩ : S62) : List (S62))).bind fun y762 => (if ((rd_T62 y762 (x5.length : Int)).f2).length < 17592186044416 then (impl_FirstFit.l0 k (y762.set ((x5.length : Int) : Int).toNat (⟨(rd_T62 y762 (x5.length : Int)).f0, (rd_T62 y762 (x5.length : Int)).f1, (((rd_T62 y762 (x5.length : Int)).f2) ++ [(rd_T80 x17 x19).f0])⟩ : S62)) x17 x18 (wrap64 (x19 + 1)) x753000 x753001) else (none))) else (none)) else (none))) else (none)) else (if 0 ≤ t757 then (if t757 < (x5.length : Int) then ((some (x5.set (t757 : Int).toNat (⟨(rd_T62 x5 t757).f0, wrap64 (((rd_T62 x5 t757).f1) + ((rd_T80 x17 x19).f1)), (rd_T62 x5 t757).f2⟩ : S62) : List (S62))).bind fun y769 => (if ((rd_T62 y769 t757).f2).length < 17592186044416 then (impl_FirstFit.l0 k (y769.set (t757 : Int).toNat (⟨(rd_T62 y769 t757).f0, (rd_T62 y769 t757).f1, (((rd_T62 y769 t757).f2) ++ [(rd_T80 x17 x19).f0])⟩ : S62)) x17 x18 (wrap64 (x19 + 1)) x753000 x753001) else (none))) else (none)) else (none)))) else (none)) else (none)) else (some x5)
end
def impl_FirstFit.f (k : Nat) (a0_0 : Int) (a0_1 : Int) (l1 : List (S80)) : Option ((List (S62))) := (impl_LimitsOk.f a0_0 a0_1).bind fun t753 => (if t753 = true then ((impl_PiecesOk.f k l1).bind fun t754 => (impl_FirstFit.j0 k l1 (!t754) a0_0 a0_1)) else (impl_FirstFit.j0 k l1 true a0_0 a0_1))
theorem impl_FirstFit.mono_l : ∀ k, (∀ y0 y1 y2 y3, LeO (impl_FirstFit.j0 k y0 y1 y2 y3) (impl_FirstFit.j0 (k + 1) y0 y1 y2 y3)) ∧ (∀ y0 y1 y2 y3 y4 y5, LeO (impl_FirstFit.l0 k y0 y1 y2 y3 y4 y5) (impl_FirstFit.l0 (k + 1) y0 y1 y2 y3 y4 y5))
  | 0 => ⟨fun _ _ _ _ r h => by simp [impl_FirstFit.j0] at h, fun _ _ _ _ _ _ r h => by simp [impl_FirstFit.l0] at h⟩
  | k + 1 => by
    obtain ⟨ih0, ih1⟩ := impl_FirstFit.mono_l k
    refine ⟨?_, ?_⟩
    · intro y0 y1 y2 y3
      unfold impl_FirstFit.j0
      repeat' first
      | (with_reducible exact ih0 _ _ _ _)
      | (with_reducible exact ih1 _ _ _ _ _ _)
      | (with_reducible exact impl_PiecesOk.mono _ _)
      | (with_reducible exact LeO.refl _)
      | (with_reducible exact LeO.none _)
      | (with_reducible refine LeO.ite ?_ ?_)
      | (with_reducible refine LeO.bind ?_ (fun _ => ?_))
      | exact ih0 _ _ _ _
      | exact ih1 _ _ _ _ _ _
      | exact impl_PiecesOk.mono _ _
      | exact LeO.none _
      | refine LeO.ite ?_ ?_
      | refine LeO.bind ?_ (fun _ => ?_)
    · intro y0 y1 y2 y3 y4 y5
      unfold impl_FirstFit.l0
      repeat' first
      | (with_reducible exact ih0 _ _ _ _)
      | (with_reducible exact ih1 _ _ _ _ _ _)
      | (with_reducible exact impl_PiecesOk.mono _ _)
      | (with_reducible exact LeO.refl _)
      | (with_reducible exact LeO.none _)
      | (with_reducible refine LeO.ite ?_ ?_)
      | (with_reducible refine LeO.bind ?_ (fun _ => ?_))
      | exact ih0 _ _ _ _
      | exact ih1 _ _ _ _ _ _
      | exact impl_PiecesOk.mono _ _
      | exact LeO.none _
      | refine LeO.ite ?_ ?_
      | refine LeO.bind ?_ (fun _ => ?_)
theorem impl_FirstFit.mono : ∀ a0 a1 a2 k, LeO (impl_FirstFit.f k a0 a1 a2) (impl_FirstFit.f (k + 1) a0 a1 a2) := by
  intro a0 a1 a2 k
  obtain ⟨ih0, ih1⟩ := impl_FirstFit.mono_l k
  unfold impl_FirstFit.f
  repeat' first
      | (with_reducible exact ih0 _ _ _ _)
      | (with_reducible exact ih1 _ _ _ _ _ _)
      | (with_reducible exact impl_PiecesOk.mono _ _)
      | (with_reducible exact LeO.refl _)
      | (with_reducible exact LeO.none _)
      | (with_reducible refine LeO.ite ?_ ?_)
      | (with_reducible refine LeO.bind ?_ (fun _ => ?_))
      | exact ih0 _ _ _ _
      | exact ih1 _ _ _ _ _ _
      | exact impl_PiecesOk.mono _ _
      | exact LeO.none _
      | refine LeO.ite ?_ ?_
      | refine LeO.bind ?_ (fun _ => ?_)
def impl_FirstFit.T11 : Bool × List (List Nat × List Nat) := (true, [([], []), ([], []), ([0, 1], [0, 1]), ([2], [2]), ([3], [3]), ([], []), ([5], [5]), ([4, 6], [4, 6]), ([0, 1, 0, 1, 2, 3, 4, 5, 6, 7], [0, 1]), ([8, 0, 1, 2, 3, 4, 5, 6, 7], [8]), ([9, 7, 0, 1, 2, 3, 4, 5, 6, 7], [7, 9])])
def impl_FirstFit.B11 : List Nat := [0, 0, 3, 7, 15, 0, 32, 127, 255, 511, 1023]
theorem impl_FirstFit.tab11 : rtab .any (opsOf Try.f45 11) = impl_FirstFit.T11 := by kernel_rfl
theorem impl_FirstFit.bits11 : waitsOk impl_FirstFit.T11.2 impl_FirstFit.B11 = true := by kernel_rfl
def impl_FirstFit.T12 : Bool × List (List Nat × List Nat) := (true, [([], []), ([], []), ([], []), ([], []), ([2, 3], [2, 3]), ([4], [4]), ([5], [5]), ([], []), ([7], [7]), ([8], [8]), ([6, 9], [6, 9]), ([0, 1, 0, 1, 2, 3, 4, 5, 6, 7, 8, 9, 10], [0, 1]), ([11, 0, 1, 2, 3, 4, 5, 6, 7, 8, 9, 10], [11]), ([12, 10, 10, 0, 1, 2, 3, 4, 5, 6, 7, 8, 9, 10], [10, 12])])
def impl_FirstFit.B12 : List Nat := [0, 0, 0, 0, 12, 28, 60, 0, 128, 384, 1020, 2047, 4095, 8191]
theorem impl_FirstFit.tab12 : rtab .any (opsOf Try.f45 12) = impl_FirstFit.T12 := by kernel_rfl
theorem impl_FirstFit.bits12 : waitsOk impl_FirstFit.T12.2 impl_FirstFit.B12 = true := by kernel_rfl
set_option maxHeartbeats 8000000 in
set_option maxRecDepth 100000 in
theorem impl_FirstFit.calls (k : Nat) (a0_0 : Int) (a0_1 : Int) (A1 : Option Addr) (c1 : Nat) (l1 : List (S80)) (r : List (S62)) (w : World) (hr1 : Kd.C k80 w A1 l1.length l1) (hc1 : l1.length ≤ c1) (h : impl_FirstFit.f k a0_0 a0_1 l1 = some r) :
    Calls Try.prog 45 #[.agg #[.int .i64 a0_0, .int .i64 a0_1], .slice A1 l1.length c1] w fun e w' => ∃ v0_ : Value, e = .returned (v0_) ∧ Kd.S k62 62 w' w.heap.size (fun _ => True) v0_ r ∧ Below w.heap.size w w' := by
  have hu49 := Try.underlying49
  have hu80 := Try.underlying80
  have hu62 := Try.underlying62
  have HR1 := Aside0.mk hr1
  have HC1 := Aside0.mk hc1
  clear hr1 hc1
  have HB := Aside0.mk (Below.refl w.heap.size w)
  have H : ((impl_LimitsOk.f a0_0 a0_1).bind fun t753 => (if t753 = true then ((impl_PiecesOk.f k l1).bind fun t754 => (impl_FirstFit.j0 k l1 (!t754) a0_0 a0_1)) else (impl_FirstFit.j0 k l1 true a0_0 a0_1))) = some r := h
  clear h
  have HC3 := Aside0.mk H
  clear H
  go_enter Try.func45, Try.ntmps45
  go_upto_region 1 with (first | ((with_reducible refine gate_dst (N := 2) rfl ?_); refine box_event ?hg (N := 2) ?hd (cs := #[.int .i64 a0_0, .int .i64 a0_1]) (t := 49) ?hr ?_; (case hd => rfl); (case hg => rfl); (case hr => first | (go_simp; done) | (go_simp; rfl)); intro gb752 hg w4 hbox hb; have n0_ := Aside0.mk (below_step (by repeat (first | (with_reducible first | exact HB.out | apply below_alloc | apply pw_below_drewN | apply below_drew1) | exact HB.out)) hb); have n1_ := Aside0.mk (hbox); have n2_ := Aside0.mk ((by rw [hg]; exact (below_size (by repeat (first | (with_reducible first | exact HB.out | apply below_alloc | apply pw_below_drewN | apply below_drew1) | exact HB.out))) : w.heap.size ≤ gb752)); have n3_ := Aside0.mk ((by rw [hg]; exact (below_size (by repeat (first | (with_reducible first | exact HB.out | apply below_alloc | apply pw_below_drewN | apply below_drew1) | exact HB.out))) : w.heap.size ≤ gb752)); clear HB; have HB := n0_; have BK752 := n1_; have GW752 := n2_; have GE752 := n3_; clear n0_ n1_ n2_ n3_; clear hb hbox hg))
  (try simp only [Act.put, List.setIfInBounds_toArray, List.set_cons_zero, List.set_cons_succ])
  go_cut [16] (fun v16 wc => ∃ (kq : Nat) (x16_2 : Bool), v16 = .bool x16_2 ∧ Aside0 (impl_FirstFit.j0 kq l1 x16_2 a0_0 a0_1 = some r) ∧ Aside0 (kq ≤ k) ∧ Aside0 (wc.heap[gb752]? = some (.cells #[.int .i64 a0_0, .int .i64 a0_1] 49 (0, 0))) ∧ Aside0 (Below w.heap.size w wc))
  case first =>
    have H := HC3.out
    clear HC3
    replace H := Option.bind_eq_some_iff.mp H
    obtain ⟨t753, A50, H⟩ := H
    replace H : (if t753 = true then ((impl_PiecesOk.f k l1).bind fun t754 => (impl_FirstFit.j0 k l1 (!t754) a0_0 a0_1)) else (impl_FirstFit.j0 k l1 true a0_0 a0_1)) = some r := H
    have A5 := Aside0.mk A50
    clear A50
    by_cases c6 : t753 = true
    · subst c6
      have H1 : ((impl_PiecesOk.f k l1).bind fun t754 => (impl_FirstFit.j0 k l1 (!t754) a0_0 a0_1)) = some r := by rw [if_pos rfl] at H; exact H
      clear H
      have H := H1
      clear H1
      replace H := Option.bind_eq_some_iff.mp H
      obtain ⟨t754, A70, H⟩ := H
      replace H : (impl_FirstFit.j0 k l1 (!t754) a0_0 a0_1) = some r := H
      have A7 := Aside0.mk A70
      clear A70
      have H' := Aside0.mk H
      clear H
      have hcz8_0 : w4.cell? ⟨gb752, 0, none⟩ = some (.int .i64 a0_0) := (blk_cell BK752.out 0).trans rfl
      have hcz8_1 : w4.cell? ⟨gb752, 1, none⟩ = some (.int .i64 a0_1) := (blk_cell BK752.out 1).trans rfl
      have hfz8_0 := blk_frozen BK752.out 0
      have hfz8_1 := blk_frozen BK752.out 1
      go_wp2_with (first | ((with_reducible refine gate_callee (f := 52) rfl ?_); refine goesL_ (some 10) rfl rfl Try.func52 (by kernel_rfl) rfl #[.agg #[.int .i64 a0_0, .int .i64 a0_1]] rfl (by (try simp only [List.map_toArray, List.map_cons, List.map_nil]); first | done | rfl | (simp only [List.length_drop, List.length_take]; rfl)) ?_; (with_reducible refine (impl_LimitsOk.calls a0_0 a0_1 true _ A5.out).mono ?_); rintro e w9 ⟨rfl, hb⟩; refine ⟨_, rfl, ?_⟩; have n0_ := Aside0.mk (blk_below (g := gb752) (o := .cells #[.int .i64 a0_0, .int .i64 a0_1] 49 (0, 0)) (by (with_reducible repeat (first | refine blk_drewN ?_ _ | refine blk_drew ?_ | refine blk_alloc ?_ _)); exact BK752.out) hb); have n1_ := Aside0.mk (below_step (by repeat (first | (with_reducible first | exact HB.out | apply below_alloc | apply pw_below_drewN | apply below_drew1 | refine below_set ?_ GE752.out) | exact HB.out)) hb); clear BK752; clear HB; have BK752 := n0_; have HB := n1_; clear n0_ n1_; (try clear hb); (try clear hb2); (try clear hk); (try clear hi)) | (go_at_call 35; (with_reducible refine (impl_PiecesOk.calls k _ _ l1 t754 _ ?side1 ?side2 A7.out).mono ?_); (case side1 => repeat (first | exact (Kd.C_below HR1.out HB.out) | (with_reducible refine Kd.C_alloc ?_ _) | (with_reducible refine Kd.C_drewN ?_ _) | (with_reducible refine Kd.C_drew ?_))); (case side2 => exact HC1.out); rintro e w10 ⟨rfl, hb⟩; have n0_ := Aside0.mk (blk_below (g := gb752) (o := .cells #[.int .i64 a0_0, .int .i64 a0_1] 49 (0, 0)) (by (with_reducible repeat (first | refine blk_drewN ?_ _ | refine blk_drew ?_ | refine blk_alloc ?_ _)); exact BK752.out) hb); have n1_ := Aside0.mk (below_step (by repeat (first | (with_reducible first | exact HB.out | apply below_alloc | apply pw_below_drewN | apply below_drew1 | refine below_set ?_ GE752.out) | exact HB.out)) hb); clear BK752; clear HB; have BK752 := n0_; have HB := n1_; clear n0_ n1_; (try clear hb); (try clear hb2); (try clear hk); (try clear hi)))
      go_meet
      case rel => exact ⟨_, (!t754), (by first | rfl | (simp; done) | (simp [*]; done)), H', ⟨by first | omega | exact Nat.le_refl _⟩, ⟨by (with_reducible repeat (first | refine blk_drewN ?_ _ | refine blk_drew ?_ | refine blk_alloc ?_ _)); exact BK752.out⟩, ⟨by repeat (first | (with_reducible first | exact HB.out | apply below_alloc | apply pw_below_drewN | apply below_drew1 | refine below_set ?_ GE752.out) | exact HB.out)⟩⟩
    · replace c6 := Bool.eq_false_iff.mpr c6
      subst c6
      have H1 : (impl_FirstFit.j0 k l1 true a0_0 a0_1) = some r := by rw [if_neg (show ¬ (false = true) by decide)] at H; exact H
      clear H
      have H := H1
      clear H1
      have H' := Aside0.mk H
      clear H
      have hcz11_0 : w4.cell? ⟨gb752, 0, none⟩ = some (.int .i64 a0_0) := (blk_cell BK752.out 0).trans rfl
      have hcz11_1 : w4.cell? ⟨gb752, 1, none⟩ = some (.int .i64 a0_1) := (blk_cell BK752.out 1).trans rfl
      have hfz11_0 := blk_frozen BK752.out 0
      have hfz11_1 := blk_frozen BK752.out 1
      go_wp2_with (first | ((with_reducible refine gate_callee (f := 52) rfl ?_); refine goesL_ (some 10) rfl rfl Try.func52 (by kernel_rfl) rfl #[.agg #[.int .i64 a0_0, .int .i64 a0_1]] rfl (by (try simp only [List.map_toArray, List.map_cons, List.map_nil]); first | done | rfl | (simp only [List.length_drop, List.length_take]; rfl)) ?_; (with_reducible refine (impl_LimitsOk.calls a0_0 a0_1 false _ A5.out).mono ?_); rintro e w12 ⟨rfl, hb⟩; refine ⟨_, rfl, ?_⟩; have n0_ := Aside0.mk (blk_below (g := gb752) (o := .cells #[.int .i64 a0_0, .int .i64 a0_1] 49 (0, 0)) (by (with_reducible repeat (first | refine blk_drewN ?_ _ | refine blk_drew ?_ | refine blk_alloc ?_ _)); exact BK752.out) hb); have n1_ := Aside0.mk (below_step (by repeat (first | (with_reducible first | exact HB.out | apply below_alloc | apply pw_below_drewN | apply below_drew1 | refine below_set ?_ GE752.out) | exact HB.out)) hb); clear BK752; clear HB; have BK752 := n0_; have HB := n1_; clear n0_ n1_; (try clear hb); (try clear hb2); (try clear hk); (try clear hi)))
      go_meet
      case rel => exact ⟨_, (true), (by first | rfl | (simp; done) | (simp [*]; done)), H', ⟨by first | omega | exact Nat.le_refl _⟩, ⟨by (with_reducible repeat (first | refine blk_drewN ?_ _ | refine blk_drew ?_ | refine blk_alloc ?_ _)); exact BK752.out⟩, ⟨by repeat (first | (with_reducible first | exact HB.out | apply below_alloc | apply pw_below_drewN | apply below_drew1 | refine below_set ?_ GE752.out) | exact HB.out)⟩⟩
  case rest =>
    clear HC3
    try clear c1
    try clear p2
    try clear c4
    try clear c5
    try clear c6
    try clear hcz11_0
    try clear hcz11_1
    try clear hcz8_0
    try clear hcz8_1
    try clear hfz11_0
    try clear hfz11_1
    try clear hfz8_0
    try clear hfz8_1
    obtain ⟨kq, x16_2, rfl, HA, HJ2, BK752, HB⟩ := hcut
    cases kq with
    | zero => exact absurd HA.out (by simp [impl_FirstFit.j0])
    | succ kj2 =>
      have H := HA.out
      clear HA
      simp only [impl_FirstFit.j0] at H
      by_cases c13 : x16_2 = true
      · subst c13
        have H1 : (some ([] : List (S62))) = some r := by rw [if_pos rfl] at H; exact H
        clear H
        have H := H1
        clear H1
        obtain rfl := Option.some.inj H
        go_wp2
        go_ret
        exact ⟨_, by first | rfl | (simp [errW_none, errW_some] <;> rfl) | (simp [*, errW_none, errW_some] <;> rfl), by first | exact Kd.S_nil _ _ _ _ _ | exact Kd.N_nil _ _ _ _ _ | exact Kd.V_nil _ _ _ _ _ | exact Kd.Q_nil _ _ _ _ _ | exact Kd.R_nil _ _ _ _ _, by repeat (first | (with_reducible first | exact HB.out | apply below_alloc | apply pw_below_drewN | apply below_drew1 | refine below_set ?_ GE752.out) | exact HB.out)⟩
      · replace c13 := Bool.eq_false_iff.mpr c13
        subst c13
        have H1 : (impl_FirstFit.l0 kj2 ([] : List (S62)) l1 (l1.length : Int) 0 a0_0 a0_1) = some r := by rw [if_neg (show ¬ (false = true) by decide)] at H; exact H
        clear H
        have H := H1
        clear H1
        have H' := Aside0.mk H
        clear H
        go_wp2
        go_loopg [5, 19] kj2 (fun kq v5 v19 w' => ∃ (x5_2 : List (S62)) (x19_2 : Int), v19 = .int .i64 x19_2 ∧ Aside0 (impl_FirstFit.l0 kq x5_2 l1 (l1.length : Int) x19_2 a0_0 a0_1 = some r) ∧ Aside0 (kq ≤ kj2) ∧ Aside0 (Kd.S k62 62 w' w.heap.size (fun _ => True) v5 x5_2) ∧ Aside0 (w'.heap[gb752]? = some (.cells #[.int .i64 a0_0, .int .i64 a0_1] 49 (0, 0))) ∧ Aside0 (Below w.heap.size w w'))
        case atStart => exact ⟨(([] : List (S62))), (0), (by first | rfl | (simp; done) | (simp [*]; done)), H', ⟨Nat.le_refl _⟩, ⟨by first | exact Kd.S_nil _ _ _ _ _ | exact Kd.N_nil _ _ _ _ _ | exact Kd.V_nil _ _ _ _ _ | exact Kd.Q_nil _ _ _ _ _ | exact Kd.R_nil _ _ _ _ _⟩, ⟨by (with_reducible repeat (first | refine blk_drewN ?_ _ | refine blk_drew ?_ | refine blk_alloc ?_ _)); exact BK752.out⟩, ⟨by repeat (first | (with_reducible first | exact HB.out | apply below_alloc | apply pw_below_drewN | apply below_drew1 | refine below_set ?_ GE752.out) | exact HB.out)⟩⟩
        case round =>
          clear H'
          try clear c1
          try clear p2
          try clear c4
          try clear c5
          try clear c6
          try clear c13
          try clear hcz11_0
          try clear hcz11_1
          try clear hcz8_0
          try clear hcz8_1
          try clear hfz11_0
          try clear hfz11_1
          try clear hfz8_0
          try clear hfz8_1
          try clear p2
          obtain ⟨x5_2, x19_2, rfl, HA, HK2, HO_5, BK752, HB⟩ := hrel
          cases gk with
          | zero => exact absurd HA.out (by simp [impl_FirstFit.l0])
          | succ k2 =>
            have H := HA.out
            clear HA
            simp only [impl_FirstFit.l0] at H
            by_cases c14 : x19_2 < (l1.length : Int)
            · rw [if_pos c14] at H
              have c14b0 : decide (x19_2 < (l1.length : Int)) = true := decide_eq_true c14
              clear c14
              by_cases c15 : 0 ≤ x19_2
              · rw [if_pos c15] at H
                have c15b0 : decide (0 ≤ x19_2) = true := decide_eq_true c15
                clear c15
                by_cases c16 : x19_2 < (l1.length : Int)
                · rw [if_pos c16] at H
                  have c16b0 : decide (x19_2 < (l1.length : Int)) = true := decide_eq_true c16
                  clear c16
                  replace H := Option.bind_eq_some_iff.mp H
                  obtain ⟨t757, A170, H⟩ := H
                  replace H : (if t757 < 0 then (if x5_2.length < 3518437208883 then ((some (x5_2 ++ [(⟨(rd_T80 l1 x19_2).f2, 0, ([] : List Int)⟩ : S62)] : List (S62))).bind fun y758 => (if 0 ≤ (x5_2.length : Int) then (if (x5_2.length : Int) < (y758.length : Int) then ((some (y758.set ((x5_2.length : Int) : Int).toNat (⟨(rd_T62 y758 (x5_2.length : Int)).f0, wrap64 (((rd_T62 y758 (x5_2.length : Int)).f1) + ((rd_T80 l1 x19_2).f1)), (rd_T62 y758 (x5_2.length : Int)).f2⟩ : S62) : List (S62))).bind fun y762 => (if ((rd_T62 y762 (x5_2.length : Int)).f2).length < 17592186044416 then (impl_FirstFit.l0 k2 (y762.set ((x5_2.length : Int) : Int).toNat (⟨(rd_T62 y762 (x5_2.length : Int)).f0, (rd_T62 y762 (x5_2.length : Int)).f1, (((rd_T62 y762 (x5_2.length : Int)).f2) ++ [(rd_T80 l1 x19_2).f0])⟩ : S62)) l1 (l1.length : Int) (wrap64 (x19_2 + 1)) a0_0 a0_1) else (none))) else (none)) else (none))) else (none)) else (if 0 ≤ t757 then (if t757 < (x5_2.length : Int) then ((some (x5_2.set (t757 : Int).toNat (⟨(rd_T62 x5_2 t757).f0, wrap64 (((rd_T62 x5_2 t757).f1) + ((rd_T80 l1 x19_2).f1)), (rd_T62 x5_2 t757).f2⟩ : S62) : List (S62))).bind fun y769 => (if ((rd_T62 y769 t757).f2).length < 17592186044416 then (impl_FirstFit.l0 k2 (y769.set (t757 : Int).toNat (⟨(rd_T62 y769 t757).f0, (rd_T62 y769 t757).f1, (((rd_T62 y769 t757).f2) ++ [(rd_T80 l1 x19_2).f0])⟩ : S62)) l1 (l1.length : Int) (wrap64 (x19_2 + 1)) a0_0 a0_1) else (none))) else (none)) else (none))) = some r := H
                  have A17 := Aside0.mk A170
                  clear A170
                  by_cases c18 : t757 < 0
                  · rw [if_pos c18] at H
                    have c18b0 : decide (t757 < 0) = true := decide_eq_true c18
                    clear c18
                    by_cases c19 : x5_2.length < 3518437208883
                    · rw [if_pos c19] at H
                      have LMc19 := Aside0.mk c19
                      clear c19
                      obtain ⟨y758, hy758⟩ : ∃ y_ : List (S62), y_ = (x5_2 ++ [(⟨(rd_T80 l1 x19_2).f2, 0, ([] : List Int)⟩ : S62)]) := ⟨_, rfl⟩
                      replace H : (if 0 ≤ (x5_2.length : Int) then (if (x5_2.length : Int) < (y758.length : Int) then ((some (y758.set ((x5_2.length : Int) : Int).toNat (⟨(rd_T62 y758 (x5_2.length : Int)).f0, wrap64 (((rd_T62 y758 (x5_2.length : Int)).f1) + ((rd_T80 l1 x19_2).f1)), (rd_T62 y758 (x5_2.length : Int)).f2⟩ : S62) : List (S62))).bind fun y762 => (if ((rd_T62 y762 (x5_2.length : Int)).f2).length < 17592186044416 then (impl_FirstFit.l0 k2 (y762.set ((x5_2.length : Int) : Int).toNat (⟨(rd_T62 y762 (x5_2.length : Int)).f0, (rd_T62 y762 (x5_2.length : Int)).f1, (((rd_T62 y762 (x5_2.length : Int)).f2) ++ [(rd_T80 l1 x19_2).f0])⟩ : S62)) l1 (l1.length : Int) (wrap64 (x19_2 + 1)) a0_0 a0_1) else (none))) else (none)) else (none)) = some r := by first | (rw [hy758]; with_reducible exact H) | (have H2_ := (Option.bind_some _ _).symm.trans H; rw [hy758]; with_reducible exact H2_) | (have H2_ := (Option.bind_some _ _).symm.trans H; with_reducible exact H2_) | with_reducible exact H | (rw [hy758]; exact H) | exact H
                      have Ny758 := Aside0.mk hy758
                      clear hy758
                      by_cases c20 : 0 ≤ (x5_2.length : Int)
                      · rw [if_pos c20] at H
                        have c20b0 : decide (0 ≤ (x5_2.length : Int)) = true := decide_eq_true c20
                        have c20b1 : decide (0 ≤ x5_2.length) = true := decide_eq_true (by omega)
                        clear c20
                        by_cases c21 : (x5_2.length : Int) < (y758.length : Int)
                        · rw [if_pos c21] at H
                          have c21b0 : decide ((x5_2.length : Int) < (y758.length : Int)) = true := decide_eq_true c21
                          have c21b1 : decide (x5_2.length < y758.length) = true := decide_eq_true (Int.ofNat_lt.mp c21)
                          clear c21
                          obtain ⟨y762, hy762⟩ : ∃ y_ : List (S62), y_ = (y758.set ((x5_2.length : Int) : Int).toNat (⟨(rd_T62 y758 (x5_2.length : Int)).f0, wrap64 (((rd_T62 y758 (x5_2.length : Int)).f1) + ((rd_T80 l1 x19_2).f1)), (rd_T62 y758 (x5_2.length : Int)).f2⟩ : S62)) := ⟨_, rfl⟩
                          replace H : (if ((rd_T62 y762 (x5_2.length : Int)).f2).length < 17592186044416 then (impl_FirstFit.l0 k2 (y762.set ((x5_2.length : Int) : Int).toNat (⟨(rd_T62 y762 (x5_2.length : Int)).f0, (rd_T62 y762 (x5_2.length : Int)).f1, (((rd_T62 y762 (x5_2.length : Int)).f2) ++ [(rd_T80 l1 x19_2).f0])⟩ : S62)) l1 (l1.length : Int) (wrap64 (x19_2 + 1)) a0_0 a0_1) else (none)) = some r := by first | (rw [hy762]; with_reducible exact H) | (have H2_ := (Option.bind_some _ _).symm.trans H; rw [hy762]; with_reducible exact H2_) | (have H2_ := (Option.bind_some _ _).symm.trans H; with_reducible exact H2_) | with_reducible exact H | (rw [hy762]; exact H) | exact H
                          have Ny762 := Aside0.mk hy762
                          clear hy762
                          by_cases c23 : ((rd_T62 y762 (x5_2.length : Int)).f2).length < 17592186044416
                          · rw [if_pos c23] at H
                            have LMc23 := Aside0.mk c23
                            clear c23
                            obtain ⟨y764, hy764⟩ : ∃ y_ : List Int, y_ = (((rd_T62 y762 (x5_2.length : Int)).f2) ++ [(rd_T80 l1 x19_2).f0]) := ⟨_, rfl⟩
                            replace H : (impl_FirstFit.l0 k2 (y762.set ((x5_2.length : Int) : Int).toNat (⟨(rd_T62 y762 (x5_2.length : Int)).f0, (rd_T62 y762 (x5_2.length : Int)).f1, y764⟩ : S62)) l1 (l1.length : Int) (wrap64 (x19_2 + 1)) a0_0 a0_1) = some r := by first | (rw [hy764]; with_reducible exact H) | (have H2_ := (Option.bind_some _ _).symm.trans H; rw [hy764]; with_reducible exact H2_) | (have H2_ := (Option.bind_some _ _).symm.trans H; with_reducible exact H2_) | with_reducible exact H | (rw [hy764]; exact H) | exact H
                            have Ny764 := Aside0.mk hy764
                            clear hy764
                            obtain ⟨y767, hy767⟩ : ∃ y_ : List (S62), y_ = (y762.set ((x5_2.length : Int) : Int).toNat (⟨(rd_T62 y762 (x5_2.length : Int)).f0, (rd_T62 y762 (x5_2.length : Int)).f1, y764⟩ : S62)) := ⟨_, rfl⟩
                            replace H : (impl_FirstFit.l0 k2 y767 l1 (l1.length : Int) (wrap64 (x19_2 + 1)) a0_0 a0_1) = some r := by first | (rw [hy767]; with_reducible exact H) | (have H2_ := (Option.bind_some _ _).symm.trans H; rw [hy767]; with_reducible exact H2_) | (have H2_ := (Option.bind_some _ _).symm.trans H; with_reducible exact H2_) | with_reducible exact H | (rw [hy767]; exact H) | exact H
                            have Ny767 := Aside0.mk hy767
                            clear hy767
                            have H' := Aside0.mk H
                            clear H
                            have p755 : 0 ≤ (x19_2 : Int) := of_decide_eq_true (by first | (with_reducible assumption) | assumption)
                            have q755 : x19_2 < (l1.length : Int) := of_decide_eq_true (by first | (with_reducible assumption) | assumption)
                            obtain ⟨ad755, e755, hx755_0, hx755_1, hx755_2⟩ := at_T80 HR1.out x19_2 p755 q755
                            cases e755
                            replace hx755_0 := (HB.out.cell (World.block_lt_of_cell? w _ hx755_0)).trans hx755_0
                            replace hx755_1 := (HB.out.cell (World.block_lt_of_cell? w _ hx755_1)).trans hx755_1
                            replace hx755_2 := (HB.out.cell (World.block_lt_of_cell? w _ hx755_2)).trans hx755_2
                            replace p755 := eq_true p755
                            replace q755 := eq_true q755
                            try go_wp2_with (first | ((with_reducible refine gate_dst (N := 7) rfl ?_); refine box_event ?hg (N := 7) ?hd (cs := #[.int .i64 0, .int .i64 0, .int .i64 0]) (t := 80) ?hr ?_; (case hd => rfl); (case hg => rfl); (case hr => first | (go_simp; done) | (go_simp; rfl)); intro gb756 hg w25 hbox hb; have n0_ := Aside0.mk (Kd.S_below (by (with_reducible repeat (first | apply Kd.S_alloc | apply Kd.S_drewN | apply Kd.S_drew)); exact HO_5.out) hb); have n1_ := Aside0.mk (blk_below (g := gb752) (o := .cells #[.int .i64 a0_0, .int .i64 a0_1] 49 (0, 0)) (by (with_reducible repeat (first | refine blk_drewN ?_ _ | refine blk_drew ?_ | refine blk_alloc ?_ _)); exact BK752.out) hb); have n2_ := Aside0.mk (below_step (by repeat (first | (with_reducible first | exact HB.out | apply below_alloc | apply pw_below_drewN | apply below_drew1 | refine below_set ?_ GE752.out) | exact HB.out)) hb); have n3_ := Aside0.mk (hbox); have n4_ := Aside0.mk ((by rw [hg]; exact (below_size (by repeat (first | (with_reducible first | exact HB.out | apply below_alloc | apply pw_below_drewN | apply below_drew1 | refine below_set ?_ GE752.out) | exact HB.out))) : w.heap.size ≤ gb756)); have n5_ := Aside0.mk ((by rw [hg]; exact (below_size (by repeat (first | (with_reducible first | exact HB.out | apply below_alloc | apply pw_below_drewN | apply below_drew1 | refine below_set ?_ GE752.out) | exact HB.out))) : w.heap.size ≤ gb756)); have n6_ := Aside0.mk ((by rw [hg]; exact Nat.ne_of_lt (blk_lt (g := gb752) (o := .cells #[.int .i64 a0_0, .int .i64 a0_1] 49 (0, 0)) (by (with_reducible repeat (first | refine blk_drewN ?_ _ | refine blk_drew ?_ | refine blk_alloc ?_ _)); exact BK752.out)) : gb752 ≠ gb756)); have n7_ := Aside0.mk ((by rw [hg]; exact Nat.ne_of_gt (blk_lt (g := gb752) (o := .cells #[.int .i64 a0_0, .int .i64 a0_1] 49 (0, 0)) (by (with_reducible repeat (first | refine blk_drewN ?_ _ | refine blk_drew ?_ | refine blk_alloc ?_ _)); exact BK752.out)) : gb756 ≠ gb752)); clear HO_5; clear BK752; clear HB; have HO_5 := n0_; have BK752 := n1_; have HB := n2_; have BK756 := n3_; have GW756 := n4_; have GE756 := n5_; have NB752_756 := n6_; have NB756_752 := n7_; clear n0_ n1_ n2_ n3_ n4_ n5_ n6_ n7_; clear hb hbox hg; have hnb26 := NB756_752.out; have hnc26 := NB752_756.out; have hcz27_0 : w25.cell? ⟨gb756, 0, none⟩ = some (.int .i64 0) := (blk_cell BK756.out 0).trans rfl; have hcz27_1 : w25.cell? ⟨gb756, 1, none⟩ = some (.int .i64 0) := (blk_cell BK756.out 1).trans rfl; have hcz27_2 : w25.cell? ⟨gb756, 2, none⟩ = some (.int .i64 0) := (blk_cell BK756.out 2).trans rfl; have hfz27_0 := blk_frozen BK756.out 0; have hfz27_1 := blk_frozen BK756.out 1; have hfz27_2 := blk_frozen BK756.out 2; obtain ⟨Ao28, co28, eo28⟩ := Kd.S_slice HO_5.out; subst eo28) | ((with_reducible refine gate_callee (f := 81) rfl ?_); refine goesL_ (some 25) rfl rfl Try.func81 (by kernel_rfl) rfl #[.slice Ao28 x5_2.length co28, .func (.func 82) #[] #[.pointer (some ⟨gb756, 0, none⟩), .pointer (some ⟨gb752, 0, none⟩)]] rfl (by (try simp only [List.map_toArray, List.map_cons, List.map_nil]); first | done | rfl | (simp only [List.length_drop, List.length_take]; rfl)) ?_; (with_reducible refine (impl_FirstFit_1__slices_IndexFunc_impl_Box.calls _ _ x5_2 ((rd_T80 l1 x19_2).f0) ((rd_T80 l1 x19_2).f1) ((rd_T80 l1 x19_2).f2) a0_0 a0_1 gb756 gb752 t757 _ ?side1 ?side2 ?side3 ?side4 A17.out).mono ?_); (case side1 => refine (Kd.S_reads' (e := 62) (base := w.heap.size) (ok := fun k_ => True) (n := x5_2.length) (c := co28) ?_).2.2; exact (by (with_reducible repeat (first | apply Kd.S_alloc | apply Kd.S_drewN | apply Kd.S_drew)); exact (Kd.S_mono (Kd.S_far (p := ⟨gb756, 2, none⟩) (Kd.S_far (p := ⟨gb756, 1, none⟩) (Kd.S_far (p := ⟨gb756, 0, none⟩) (Kd.S_types HO_5.out BK756.out (by decide)) (fun _ hk => hk.2) (.int .i64 ((rd_T80 l1 x19_2).f0))) (fun _ hk => hk.2) (.int .i64 ((rd_T80 l1 x19_2).f1))) (fun _ hk => hk.2) (.int .i64 ((rd_T80 l1 x19_2).f2))) (fun _ h_ => h_.1)))); (case side2 => exact (Kd.S_reads' HO_5.out).2.1); (case side3 => exact (by (with_reducible repeat (first | refine blk_drewN ?_ _ | refine blk_drew ?_ | refine blk_alloc ?_ _)); refine blk_put (cs := #[.int .i64 ((rd_T80 l1 x19_2).f0), .int .i64 ((rd_T80 l1 x19_2).f1), .int .i64 0]) ?_ 2 _ rfl; (with_reducible repeat (first | refine blk_drewN ?_ _ | refine blk_drew ?_ | refine blk_alloc ?_ _)); refine blk_put (cs := #[.int .i64 ((rd_T80 l1 x19_2).f0), .int .i64 0, .int .i64 0]) ?_ 1 _ rfl; (with_reducible repeat (first | refine blk_drewN ?_ _ | refine blk_drew ?_ | refine blk_alloc ?_ _)); refine blk_put (cs := #[.int .i64 0, .int .i64 0, .int .i64 0]) ?_ 0 _ rfl; (with_reducible repeat (first | refine blk_drewN ?_ _ | refine blk_drew ?_ | refine blk_alloc ?_ _)); exact BK756.out)); (case side4 => exact (by (with_reducible repeat (first | refine blk_drewN ?_ _ | refine blk_drew ?_ | refine blk_alloc ?_ _)); refine blk_far ?_ NB752_756.out _; (with_reducible repeat (first | refine blk_drewN ?_ _ | refine blk_drew ?_ | refine blk_alloc ?_ _)); refine blk_far ?_ NB752_756.out _; (with_reducible repeat (first | refine blk_drewN ?_ _ | refine blk_drew ?_ | refine blk_alloc ?_ _)); refine blk_far ?_ NB752_756.out _; (with_reducible repeat (first | refine blk_drewN ?_ _ | refine blk_drew ?_ | refine blk_alloc ?_ _)); exact BK752.out)); rintro e w29 ⟨rfl, hb⟩; refine ⟨_, rfl, ?_⟩; have n0_ := Aside0.mk (Kd.S_below (by (with_reducible repeat (first | apply Kd.S_alloc | apply Kd.S_drewN | apply Kd.S_drew)); exact (Kd.S_mono (Kd.S_far (p := ⟨gb756, 2, none⟩) (Kd.S_far (p := ⟨gb756, 1, none⟩) (Kd.S_far (p := ⟨gb756, 0, none⟩) (Kd.S_types HO_5.out BK756.out (by decide)) (fun _ hk => hk.2) (.int .i64 ((rd_T80 l1 x19_2).f0))) (fun _ hk => hk.2) (.int .i64 ((rd_T80 l1 x19_2).f1))) (fun _ hk => hk.2) (.int .i64 ((rd_T80 l1 x19_2).f2))) (fun _ h_ => h_.1))) hb); have n1_ := Aside0.mk (blk_below (g := gb752) (o := .cells #[.int .i64 a0_0, .int .i64 a0_1] 49 (0, 0)) (by (with_reducible repeat (first | refine blk_drewN ?_ _ | refine blk_drew ?_ | refine blk_alloc ?_ _)); refine blk_far ?_ NB752_756.out _; (with_reducible repeat (first | refine blk_drewN ?_ _ | refine blk_drew ?_ | refine blk_alloc ?_ _)); refine blk_far ?_ NB752_756.out _; (with_reducible repeat (first | refine blk_drewN ?_ _ | refine blk_drew ?_ | refine blk_alloc ?_ _)); refine blk_far ?_ NB752_756.out _; (with_reducible repeat (first | refine blk_drewN ?_ _ | refine blk_drew ?_ | refine blk_alloc ?_ _)); exact BK752.out) hb); have n2_ := Aside0.mk (blk_below (g := gb756) (o := .cells #[.int .i64 ((rd_T80 l1 x19_2).f0), .int .i64 ((rd_T80 l1 x19_2).f1), .int .i64 ((rd_T80 l1 x19_2).f2)] 80 (0, 0)) (by (with_reducible repeat (first | refine blk_drewN ?_ _ | refine blk_drew ?_ | refine blk_alloc ?_ _)); refine blk_put (cs := #[.int .i64 ((rd_T80 l1 x19_2).f0), .int .i64 ((rd_T80 l1 x19_2).f1), .int .i64 0]) ?_ 2 _ rfl; (with_reducible repeat (first | refine blk_drewN ?_ _ | refine blk_drew ?_ | refine blk_alloc ?_ _)); refine blk_put (cs := #[.int .i64 ((rd_T80 l1 x19_2).f0), .int .i64 0, .int .i64 0]) ?_ 1 _ rfl; (with_reducible repeat (first | refine blk_drewN ?_ _ | refine blk_drew ?_ | refine blk_alloc ?_ _)); refine blk_put (cs := #[.int .i64 0, .int .i64 0, .int .i64 0]) ?_ 0 _ rfl; (with_reducible repeat (first | refine blk_drewN ?_ _ | refine blk_drew ?_ | refine blk_alloc ?_ _)); exact BK756.out) hb); have n3_ := Aside0.mk (below_step (by repeat (first | (with_reducible first | exact HB.out | apply below_alloc | apply pw_below_drewN | apply below_drew1 | refine below_set ?_ GE752.out | refine below_set ?_ GE756.out) | exact HB.out)) hb); clear HO_5; clear BK752; clear BK756; clear HB; have HO_5 := n0_; have BK752 := n1_; have BK756 := n2_; have HB := n3_; clear n0_ n1_ n2_ n3_; (try clear hb); (try clear hb2); (try clear hk); (try clear hi); have hcz30_0 : w29.cell? ⟨gb756, 0, none⟩ = some (.int .i64 ((rd_T80 l1 x19_2).f0)) := (blk_cell BK756.out 0).trans rfl; have hcz30_1 : w29.cell? ⟨gb756, 1, none⟩ = some (.int .i64 ((rd_T80 l1 x19_2).f1)) := (blk_cell BK756.out 1).trans rfl; have hcz30_2 : w29.cell? ⟨gb756, 2, none⟩ = some (.int .i64 ((rd_T80 l1 x19_2).f2)) := (blk_cell BK756.out 2).trans rfl; have hfz30_0 := blk_frozen BK756.out 0; have hfz30_1 := blk_frozen BK756.out 1; have hfz30_2 := blk_frozen BK756.out 2) | ((with_reducible refine gate_builtin (b := .append) (xs := #[.tmp 30, .tmp 34]) rfl ?_); at_builtin; refine Kd.S_append k62 (w0 := w) w.heap.size rfl (.tmp 30) (.tmp 34) 52 62 (.agg #[(.int .i64 0), (.int .i64 0), (.slice none 0 0)]) 40 rfl Try.underlying52 info62 rfl (by decide) (by omega) (.slice Ao28 x5_2.length co28) x5_2 (⟨(rd_T80 l1 x19_2).f2, 0, ([] : List Int)⟩ : S62) [.int .i64 ((rd_T80 l1 x19_2).f2), .int .i64 0, .slice none 0 0] (fun _ => True) (fun _ => False) rfl rfl ?aP (fun k_ hk_ => hk_.elim) ?aF ?aO ?aB ?aS ?aL ?_; (case aP => exact k62_mkM _ _ _ (⟨(rd_T80 l1 x19_2).f2, 0, ([] : List Int)⟩ : S62) (Kd.R_nil _ _ _ _ _)); (case aB => exact (by repeat (first | (with_reducible first | exact HB.out | apply below_alloc | apply pw_below_drewN | apply below_drew1 | refine below_set ?_ GE752.out | refine below_set ?_ GE756.out) | exact HB.out))); (case aF => exact (fun _ _ => trivial)); (case aO => exact (by (with_reducible repeat (first | apply Kd.S_alloc | apply Kd.S_drewN | apply Kd.S_drew)); exact Kd.S_mono HO_5.out (fun k_ hk => ⟨trivial, fun e_ => e_⟩))); (case aS => exact (below_size (by repeat (first | (with_reducible first | exact HB.out | apply below_alloc | apply pw_below_drewN | apply below_drew1 | refine below_set ?_ GE752.out | refine below_set ?_ GE756.out) | exact HB.out)))); (case aL => have := LMc19.out; omega); intro v759 w31 ho hb hg hat; rw [← Ny758.out] at ho; have n0_ := Aside0.mk (blk_grown (g := gb752) (o := .cells #[.int .i64 a0_0, .int .i64 a0_1] 49 (0, 0)) (by (with_reducible repeat (first | refine blk_drewN ?_ _ | refine blk_drew ?_ | refine blk_alloc ?_ _)); exact BK752.out) hg (Kd.S_ne HO_5.out BK752.out (by decide))); have n1_ := Aside0.mk (blk_grown (g := gb756) (o := .cells #[.int .i64 ((rd_T80 l1 x19_2).f0), .int .i64 ((rd_T80 l1 x19_2).f1), .int .i64 ((rd_T80 l1 x19_2).f2)] 80 (0, 0)) (by (with_reducible repeat (first | refine blk_drewN ?_ _ | refine blk_drew ?_ | refine blk_alloc ?_ _)); exact BK756.out) hg (Kd.S_ne HO_5.out BK756.out (by decide))); have n2_ := Aside0.mk (hb); have n3_ := Aside0.mk (ho); clear BK752; clear BK756; clear HB; clear HO_5; have BK752 := n0_; have BK756 := n1_; have HB := n2_; have HO760 := n3_; clear n0_ n1_ n2_ n3_; clear ho hb hg hat))
                            have n0_ := Aside0.mk (Kd.S_drew HO760.out)
                            have n1_ := Aside0.mk (blk_drew BK752.out)
                            have n2_ := Aside0.mk (blk_drew BK756.out)
                            have n3_ := Aside0.mk (below_drew1 HB.out)
                            clear HO760
                            clear BK752
                            clear BK756
                            clear HB
                            have HO760 := n0_
                            have BK752 := n1_
                            have BK756 := n2_
                            have HB := n3_
                            clear n0_ n1_ n2_ n3_
                            obtain ⟨Ao33, co33, eo33⟩ := Kd.S_slice HO760.out
                            (first | subst eo33 | (injection eo33 with f1_ f2_ f3_; have f4_ := f1_.symm; have f5_ := f3_.symm; clear f1_ f2_ f3_; subst f4_; subst f5_))
                            have p761 : 0 ≤ ((x5_2.length : Int) : Int) := of_decide_eq_true (by first | (with_reducible assumption) | assumption)
                            have q761 : (x5_2.length : Int) < (y758.length : Int) := of_decide_eq_true (by first | (with_reducible assumption) | assumption)
                            obtain ⟨ad761, A761_2, c761_2, e761, hx761_0, hx761_1, hx761_2, hl761_2, hi761_2⟩ := at_T62 (Kd.S_reads' HO760.out).2.2 (x5_2.length : Int) p761 q761
                            cases e761
                            obtain ⟨ce761, hce761, hMe761, hcc761⟩ := Kd.S_get HO760.out z62 (x5_2.length : Int) p761 (by first | exact q761 | exact of_decide_eq_true (by first | (with_reducible assumption) | assumption) | (have e_ := (Kd.S_reads' HO760.out).1; omega))
                            obtain ⟨ve761_2, rfl, ge761_2⟩ := k62_openM hMe761
                            have hv761_2 := hcc761 2 _ rfl
                            rw [add_field _ _ 2 (by omega)] at hv761_2
                            replace hv761_2 := Option.some.inj (hv761_2.symm.trans hx761_2)
                            rw [hv761_2] at ge761_2
                            have HL761_2 := Aside0.mk (show Kd.R (Kd.int .i64) 3 _ _ _ _ ((rd_T62 y758 (x5_2.length : Int)).f2) from ge761_2)
                            clear hv761_2 ge761_2
                            have HX761_2 := Aside0.mk hx761_2
                            clear hcc761 hce761
                            have HR761_2 := Aside0.mk hi761_2
                            have HC761_2 := Aside0.mk hl761_2
                            clear hi761_2 hl761_2
                            (try simp only [Go.IntWalk.toNatUp] at hx761_0)
                            (try simp only [Go.IntWalk.toNatUp] at hx761_1)
                            (try simp only [Go.IntWalk.toNatUp] at hx761_2)
                            replace p761 := eq_true p761
                            replace q761 := eq_true q761
                            have p22 : 0 ≤ ((x5_2.length : Int) : Int) := of_decide_eq_true (by first | (with_reducible assumption) | assumption)
                            have q22 : ((x5_2.length : Int) : Int) < ((y758.length : Int) : Int) := of_decide_eq_true (by first | (with_reducible assumption) | assumption)
                            obtain ⟨go22, co22, eo22, gb22, gl22, cl22, HG22⟩ := Kd.S_form HO760.out (by omega)
                            (first | cases eo22 | (injection eo22 with ea_ en_ ec_; (first | subst ea_ | (injection ea_ with ea_; subst ea_)); subst ec_; clear en_))
                            have GB22 := Aside0.mk gb22
                            have GG22 := Aside0.mk HG22
                            clear gb22 gl22 HG22
                            (first | simp only [add_plain] at hx761_0 | skip)
                            (first | simp only [add_plain] at hx761_1 | skip)
                            (first | simp only [add_plain] at hx761_2 | skip)
                            obtain ⟨_, ce22, hcl22, hM22, hcc22, hfr22, _, _⟩ := Kd.S_elem HO760.out z62 ((x5_2.length : Int) : Int) p22 q22
                            obtain ⟨ve22_2, rfl, ge22_2⟩ := k62_openM hM22
                            have hx22_0 : World.cell? _ ⟨go22, ((x5_2.length : Int) : Int).toNat * 3, none⟩ = some (.int .i64 ((rd_T62 y758 (x5_2.length : Int)).f0)) := hcc22 0 _ rfl
                            have hx22_1 : World.cell? _ ⟨go22, ((x5_2.length : Int) : Int).toNat * 3 + 1, none⟩ = some (.int .i64 ((rd_T62 y758 (x5_2.length : Int)).f1)) := hcc22 1 _ rfl
                            have hx22_2 : World.cell? _ ⟨go22, ((x5_2.length : Int) : Int).toNat * 3 + 2, none⟩ = some (ve22_2) := hcc22 2 _ rfl
                            have hf22_0 : World.frozen? _ ⟨go22, ((x5_2.length : Int) : Int).toNat * 3, none⟩ = false := hfr22 0
                            have hf22_1 : World.frozen? _ ⟨go22, ((x5_2.length : Int) : Int).toNat * 3 + 1, none⟩ = false := hfr22 1
                            have hf22_2 : World.frozen? _ ⟨go22, ((x5_2.length : Int) : Int).toNat * 3 + 2, none⟩ = false := hfr22 2
                            clear hcl22 hcc22 hfr22 hM22
                            (try simp only [Int.toNat_natCast] at hx22_0)
                            (try simp only [Int.toNat_natCast] at hx22_1)
                            (try simp only [Int.toNat_natCast] at hx22_2)
                            (try simp only [Int.toNat_natCast] at hf22_0)
                            (try simp only [Int.toNat_natCast] at hf22_1)
                            (try simp only [Int.toNat_natCast] at hf22_2)
                            replace p22 := eq_true p22
                            replace q22 := eq_true q22
                            have HX34 := Aside0.mk (show Kd.S k62 62 _ w.heap.size (fun k_ => ((fun _ => True)) k_ ∧ ¬ (fun _ => False) k_) (.slice (some ⟨go22, 0, none⟩) y758.length co33) y758 from (by exact Kd.S_mono HO760.out (fun k_ hk => ⟨trivial, fun e_ => e_⟩)))
                            obtain ⟨oki34, ce34, hcl34, hM34, hcc34, hfr34, hoki34, hH34⟩ := Kd.S_elem HX34.out z62 ((x5_2.length : Int) : Int) (of_decide_eq_true (by first | (with_reducible assumption) | assumption)) (by have h_ : ((x5_2.length : Int) : Int) < ((y758.length : Int) : Int) := of_decide_eq_true (by first | (with_reducible assumption) | assumption); first | exact h_ | (have e_ := (Kd.S_reads' HO760.out).1; omega) | simpa using h_)
                            obtain ⟨ve34_2, rfl, ge34_2⟩ := k62_openM hM34
                            have HP34 := (Kd.S_seg hH34 (of_decide_eq_true (by first | (with_reducible assumption) | assumption)) (by have h_ : ((x5_2.length : Int) : Int) < ((y758.length : Int) : Int) := of_decide_eq_true (by first | (with_reducible assumption) | assumption); first | exact h_ | (have e_ := (Kd.S_reads' HO760.out).1; omega) | simpa using h_) (seg := [.int .i64 (wrap64 (((rd_T62 y758 (x5_2.length : Int)).f1) + ((rd_T80 l1 x19_2).f1)))]) (j := 1) (show 2 ≤ 3 from by decide) (x' := (⟨(rd_T62 y758 (x5_2.length : Int)).f0, wrap64 (((rd_T62 y758 (x5_2.length : Int)).f1) + ((rd_T80 l1 x19_2).f1)), (rd_T62 y758 (x5_2.length : Int)).f2⟩ : S62)) (k62_mkM _ _ _ (⟨(rd_T62 y758 (x5_2.length : Int)).f0, wrap64 (((rd_T62 y758 (x5_2.length : Int)).f1) + ((rd_T80 l1 x19_2).f1)), (rd_T62 y758 (x5_2.length : Int)).f2⟩ : S62) ge34_2) (fun _ hk => Or.inl hk) (fun _ hk => hk.elim)).1
                            rw [← Ny762.out] at HP34
                            have HQ34 := Aside0.mk HP34
                            clear hcl34 hcc34 hfr34 hM34 HP34
                            refine start_ (n := 11) (S := fun w' => w'.cell? ⟨gb756, 0, none⟩ = some (.int .i64 ((rd_T80 l1 x19_2).f0)) ∧ w'.cell? ⟨gb756, 1, none⟩ = some (.int .i64 ((rd_T80 l1 x19_2).f1)) ∧ w'.cell? ⟨gb756, 2, none⟩ = some (.int .i64 ((rd_T80 l1 x19_2).f2)) ∧ w'.cell? (⟨go22, x5_2.length * 3, none⟩ : Addr) = some (.int .i64 ((rd_T62 y758 (x5_2.length : Int)).f0)) ∧ w'.cell? ⟨go22, x5_2.length * 3 + 1, none⟩ = some (.int .i64 ((rd_T62 y758 (x5_2.length : Int)).f1)) ∧ w'.cell? ⟨go22, x5_2.length * 3 + 2, none⟩ = some (.slice A761_2 ((rd_T62 y758 (x5_2.length : Int)).f2).length c761_2)) (ds := [10]) #[false, false, false, false, false, false, false, false, false, false, false] (by kernel_rfl) rfl rfl ⟨(blk_cell BK756.out 0).trans rfl, (blk_cell BK756.out 1).trans rfl, (blk_cell BK756.out 2).trans rfl, hx761_0, hx761_1, hx761_2⟩ (fun hHeld => ?_); refine with_tabW impl_FirstFit.tab11 impl_FirstFit.bits11 (fun HT_ HW_ => ?_)
                            generalize w31.drew = w32 at HO760 BK752 BK756 HB GG22 HL761_2 HQ34 HR761_2 HX761_2 hf22_0 hf22_1 hf22_2 hx22_0 hx22_1 hx22_2 hx761_0 hx761_1 hx761_2 hHeld ⊢
                            refine pure_ (i := 0) (N := some 36) (v := ?_) (a' := ?_) #[true, false, false, false, false, false, false, false, false, false, false] rfl rfl (any_of HT_.out (by kernel_rfl)) (fun _ _ _ h => h) (Or.inl ⟨by rfl, ?_⟩) ?_ ?_
                            rotate_left
                            · intro w'
                              go_simp
                              with_reducible rfl
                            rotate_left
                            · simp only [Act.put, List.setIfInBounds_toArray, List.set_cons_zero, List.set_cons_succ, i64_w, i32_w]
                              rfl
                            refine pure_ (i := 1) (N := some 37) (v := ?_) (a' := ?_) #[true, true, false, false, false, false, false, false, false, false, false] rfl rfl (any_of HT_.out (by kernel_rfl)) (fun _ _ _ h => h) (Or.inl ⟨by rfl, ?_⟩) ?_ ?_
                            rotate_left
                            · intro w'
                              go_simp
                              with_reducible rfl
                            rotate_left
                            · simp only [Act.put, List.setIfInBounds_toArray, List.set_cons_zero, List.set_cons_succ, i64_w, i32_w]
                              rfl
                            refine pure_ (i := 2) (N := some 38) (v := ?_) (a' := ?_) #[true, true, true, false, false, false, false, false, false, false, false] rfl rfl (any_of HT_.out (by kernel_rfl)) (fun _ _ _ h => h) (Or.inl ⟨by rfl, ?_⟩) ?_ ?_
                            rotate_left
                            · intro w'
                              go_simp
                              with_reducible rfl
                            rotate_left
                            · simp only [Act.put, List.setIfInBounds_toArray, List.set_cons_zero, List.set_cons_succ, i64_w, i32_w]
                              rfl
                            refine pure_ (i := 3) (N := some 39) (v := ?_) (a' := ?_) #[true, true, true, true, false, false, false, false, false, false, false] rfl rfl (any_of HT_.out (by kernel_rfl)) (fun _ _ _ h => h) (Or.inl ⟨by rfl, ?_⟩) ?_ ?_
                            rotate_left
                            · intro w'
                              go_simp
                              with_reducible rfl
                            rotate_left
                            · simp only [Act.put, List.setIfInBounds_toArray, List.set_cons_zero, List.set_cons_succ, i64_w, i32_w]
                              rfl
                            refine pure_ (i := 5) (N := some 41) (v := ?_) (a' := ?_) #[true, true, true, true, false, true, false, false, false, false, false] rfl rfl (any_of HT_.out (by kernel_rfl)) (fun _ _ _ h => h) (Or.inl ⟨by rfl, ?_⟩) ?_ ?_
                            rotate_left
                            · intro w'
                              go_simp
                              with_reducible rfl
                            rotate_left
                            · simp only [Act.put, List.setIfInBounds_toArray, List.set_cons_zero, List.set_cons_succ, i64_w, i32_w]
                              rfl
                            refine take_ (i := 4) (N := some 40) (v := ?_) (a' := ?_) #[true, true, true, true, true, true, false, false, false, false, false] rfl rfl (take_ofW HT_.out HW_.out (by kernel_rfl)) (fun _ _ _ h => h) (Or.inl ⟨by rfl, ?_⟩) hHeld ?_ ?_
                            rotate_left
                            · rintro w' ⟨s0, s1, s2, s3, s4, s5⟩
                              go_simp
                              with_reducible rfl
                            rotate_left
                            · simp only [Act.put, List.setIfInBounds_toArray, List.set_cons_zero, List.set_cons_succ, i64_w, i32_w]
                              rfl
                            refine take_ (i := 6) (N := some 42) (v := ?_) (a' := ?_) #[true, true, true, true, true, true, true, false, false, false, false] rfl rfl (take_ofW HT_.out HW_.out (by kernel_rfl)) (fun _ _ _ h => h) (Or.inl ⟨by rfl, ?_⟩) hHeld ?_ ?_
                            rotate_left
                            · rintro w' ⟨s0, s1, s2, s3, s4, s5⟩
                              go_simp
                              with_reducible rfl
                            rotate_left
                            · simp only [Act.put, List.setIfInBounds_toArray, List.set_cons_zero, List.set_cons_succ, i64_w, i32_w]
                              rfl
                            refine pure_ (i := 7) (N := some 43) (v := ?_) (a' := ?_) #[true, true, true, true, true, true, true, true, false, false, false] rfl rfl (any_of HT_.out (by kernel_rfl)) (fun _ _ _ h => h) (Or.inl ⟨by rfl, ?_⟩) ?_ ?_
                            rotate_left
                            · intro w'
                              go_simp
                              with_reducible rfl
                            rotate_left
                            · simp only [Act.put, List.setIfInBounds_toArray, List.set_cons_zero, List.set_cons_succ, i64_w, i32_w]
                              rfl
                            refine pure_ (i := 8) (N := some 44) (v := ?_) (a' := ?_) #[true, true, true, true, true, true, true, true, true, false, false] rfl rfl (any_of HT_.out (by kernel_rfl)) (fun _ _ _ h => h) (Or.inl ⟨by rfl, ?_⟩) ?_ ?_
                            rotate_left
                            · intro w'
                              go_simp
                              with_reducible rfl
                            rotate_left
                            · simp only [Act.put, List.setIfInBounds_toArray, List.set_cons_zero, List.set_cons_succ, i64_w, i32_w]
                              rfl
                            refine pure_ (i := 9) (N := some 45) (v := ?_) (a' := ?_) #[true, true, true, true, true, true, true, true, true, true, false] rfl rfl (any_of HT_.out (by kernel_rfl)) (fun _ _ _ h => h) (Or.inl ⟨by rfl, ?_⟩) ?_ ?_
                            rotate_left
                            · intro w'
                              go_simp
                              with_reducible rfl
                            rotate_left
                            · simp only [Act.put, List.setIfInBounds_toArray, List.set_cons_zero, List.set_cons_succ, i64_w, i32_w]
                              rfl
                            refine last_ (i := 10) (N := none) #[true, true, true, true, true, true, true, true, true, true, true] rfl rfl (one_of HT_.out (by kernel_rfl)) (by decide) (fun K hK => ?_)
                            refine skip_ (w1 := ?_) (by rfl) rfl ?_ ?_
                            rotate_left
                            · go_simp
                              rfl
                            refine hK.out _ _ ?_
                            clear hK K
                            refine done_ (done_of HT_.out (by kernel_rfl)) ?_
                            try go_wp2
                            have n0_ : Aside0 (Kd.S k62 62 (w32.setCell ⟨go22, x5_2.length * 3 + 1, none⟩ (.int .i64 (wrap64 (((rd_T62 y758 (x5_2.length : Int)).f1) + ((rd_T80 l1 x19_2).f1))))) w.heap.size (fun _ => True) (.slice (some ⟨go22, 0, none⟩) y758.length co33) y762) := ⟨by (with_reducible repeat (first | apply Kd.S_alloc | apply Kd.S_drewN | apply Kd.S_drew)); exact HQ34.out⟩
                            have n1_ : Aside0 (Kd.R (Kd.int .i64) 3 (w32.setCell ⟨go22, x5_2.length * 3 + 1, none⟩ (.int .i64 (wrap64 (((rd_T62 y758 (x5_2.length : Int)).f1) + ((rd_T80 l1 x19_2).f1))))) w.heap.size (fun k_ => some k_ ≠ (.slice (some ⟨go22, 0, none⟩) y758.length co33 : Value).ownBlock) (.slice A761_2 ((rd_T62 y758 (x5_2.length : Int)).f2).length c761_2) ((rd_T62 y758 (x5_2.length : Int)).f2)) := ⟨by (with_reducible repeat (first | apply Kd.R_alloc | apply Kd.R_drewN | apply Kd.R_drew)); exact Kd.R_mono (Kd.R_far (p := ⟨go22, x5_2.length * 3 + 1, none⟩) (Kd.R_types HL761_2.out GG22.out (by decide)) (fun _ hk => hk.2) (.int .i64 (wrap64 (((rd_T62 y758 (x5_2.length : Int)).f1) + ((rd_T80 l1 x19_2).f1))))) (fun _ hk => hk.1.2)⟩
                            have n2_ : Aside0 ((w32.setCell ⟨go22, x5_2.length * 3 + 1, none⟩ (.int .i64 (wrap64 (((rd_T62 y758 (x5_2.length : Int)).f1) + ((rd_T80 l1 x19_2).f1))))).heap[gb752]? = some (.cells #[.int .i64 a0_0, .int .i64 a0_1] 49 (0, 0))) := ⟨by (with_reducible repeat (first | refine blk_drewN ?_ _ | refine blk_drew ?_ | refine blk_alloc ?_ _)); refine blk_far ?_ (by have h_ := Kd.S_ne HO760.out BK752.out (by decide); intro e_; exact h_ (by rw [e_]; rfl)) _; (with_reducible repeat (first | refine blk_drewN ?_ _ | refine blk_drew ?_ | refine blk_alloc ?_ _)); exact BK752.out⟩
                            have n3_ : Aside0 ((w32.setCell ⟨go22, x5_2.length * 3 + 1, none⟩ (.int .i64 (wrap64 (((rd_T62 y758 (x5_2.length : Int)).f1) + ((rd_T80 l1 x19_2).f1))))).heap[gb756]? = some (.cells #[.int .i64 ((rd_T80 l1 x19_2).f0), .int .i64 ((rd_T80 l1 x19_2).f1), .int .i64 ((rd_T80 l1 x19_2).f2)] 80 (0, 0))) := ⟨by (with_reducible repeat (first | refine blk_drewN ?_ _ | refine blk_drew ?_ | refine blk_alloc ?_ _)); refine blk_far ?_ (by have h_ := Kd.S_ne HO760.out BK756.out (by decide); intro e_; exact h_ (by rw [e_]; rfl)) _; (with_reducible repeat (first | refine blk_drewN ?_ _ | refine blk_drew ?_ | refine blk_alloc ?_ _)); exact BK756.out⟩
                            have n4_ : Aside0 (Below w.heap.size w (w32.setCell ⟨go22, x5_2.length * 3 + 1, none⟩ (.int .i64 (wrap64 (((rd_T62 y758 (x5_2.length : Int)).f1) + ((rd_T80 l1 x19_2).f1)))))) := ⟨by repeat (first | (with_reducible first | exact HB.out | apply below_alloc | apply pw_below_drewN | apply below_drew1 | refine below_set ?_ GB22.out | refine below_set ?_ GE752.out | refine below_set ?_ GE756.out) | exact HB.out)⟩
                            (try clear HO760)
                            (try clear HL761_2)
                            (try clear BK752)
                            (try clear BK756)
                            (try clear HB)
                            generalize (w32.setCell ⟨go22, x5_2.length * 3 + 1, none⟩ (.int .i64 (wrap64 (((rd_T62 y758 (x5_2.length : Int)).f1) + ((rd_T80 l1 x19_2).f1))))) = w35 at n0_ n1_ n2_ n3_ n4_ ⊢
                            have HO760 := n0_
                            have HL761_2 := n1_
                            have BK752 := n2_
                            have BK756 := n3_
                            have HB := n4_
                            clear n0_ n1_ n2_ n3_ n4_
                            have n0_ := Aside0.mk (Kd.S_drew HO760.out)
                            have n1_ := Aside0.mk (Kd.R_drew HL761_2.out)
                            have n2_ := Aside0.mk (blk_drew BK752.out)
                            have n3_ := Aside0.mk (blk_drew BK756.out)
                            have n4_ := Aside0.mk (below_drew1 HB.out)
                            clear HO760
                            clear HL761_2
                            clear BK752
                            clear BK756
                            clear HB
                            have HO760 := n0_
                            have HL761_2 := n1_
                            have BK752 := n2_
                            have BK756 := n3_
                            have HB := n4_
                            clear n0_ n1_ n2_ n3_ n4_
                            have p763 : 0 ≤ ((x5_2.length : Int) : Int) := of_decide_eq_true (by first | (with_reducible assumption) | assumption)
                            have q763 : (x5_2.length : Int) < (y762.length : Int) := (by have h_ : ((x5_2.length : Int) : Int) < ((y758.length : Int) : Int) := of_decide_eq_true (by first | (with_reducible assumption) | assumption); first | (have e_ := (Kd.S_reads' HO760.out).1; omega) | simpa only [Ny762.out, List.length_set] using h_)
                            have ql763 : (((x5_2.length : Int) : Int) < ((y758.length : Int) : Int)) = True := eq_true (of_decide_eq_true (by first | (with_reducible assumption) | assumption))
                            obtain ⟨ad763, A763_2, c763_2, e763, hx763_0, hx763_1, hx763_2, hl763_2, hi763_2⟩ := at_T62 (Kd.S_reads' HO760.out).2.2 (x5_2.length : Int) p763 q763
                            obtain rfl : (⟨go22, 0, none⟩ : Addr) = ad763 := (by injection e763)
                            obtain ⟨ce763, hce763, hMe763, hcc763⟩ := Kd.S_get HO760.out z62 (x5_2.length : Int) p763 (by first | exact q763 | exact of_decide_eq_true (by first | (with_reducible assumption) | assumption) | (have e_ := (Kd.S_reads' HO760.out).1; omega))
                            obtain ⟨ve763_2, rfl, ge763_2⟩ := k62_openM hMe763
                            have hv763_2 := hcc763 2 _ rfl
                            rw [add_field _ _ 2 (by omega)] at hv763_2
                            replace hv763_2 := Option.some.inj (hv763_2.symm.trans hx763_2)
                            rw [hv763_2] at ge763_2
                            have HL763_2 := Aside0.mk (show Kd.R (Kd.int .i64) 3 _ _ _ _ ((rd_T62 y762 (x5_2.length : Int)).f2) from ge763_2)
                            clear hv763_2 ge763_2
                            have HX763_2 := Aside0.mk hx763_2
                            clear hcc763 hce763
                            (first | simp only [add_plain] at hx763_0 | simp only [add_at] at hx763_0 | simp only [Addr.add, Nat.zero_add] at hx763_0 | skip)
                            (first | simp only [add_plain] at hx763_1 | simp only [add_at] at hx763_1 | simp only [Addr.add, Nat.zero_add] at hx763_1 | skip)
                            (first | simp only [add_plain] at hx763_2 | simp only [add_at] at hx763_2 | simp only [Addr.add, Nat.zero_add] at hx763_2 | skip)
                            have HR763_2 := Aside0.mk hi763_2
                            have HC763_2 := Aside0.mk hl763_2
                            clear hi763_2 hl763_2
                            (try simp only [Go.IntWalk.toNatUp] at hx763_0)
                            (try simp only [Go.IntWalk.toNatUp] at hx763_1)
                            (try simp only [Go.IntWalk.toNatUp] at hx763_2)
                            replace p763 := eq_true p763
                            replace q763 := eq_true q763
                            obtain ⟨oki37, ce37, hcl37, hM37, hcc37, _, _, hH37⟩ := Kd.S_elem HO760.out z62 ((x5_2.length : Int) : Int) (of_decide_eq_true (by first | (with_reducible assumption) | assumption)) (by have h_ : ((x5_2.length : Int) : Int) < ((y758.length : Int) : Int) := of_decide_eq_true (by first | (with_reducible assumption) | assumption); first | exact h_ | (have e_ := (Kd.S_reads' HO760.out).1; omega) | simpa using h_)
                            obtain ⟨ve37_2, rfl, ge37_2⟩ := k62_openM hM37
                            have hv37 := hcc37 2 _ rfl
                            have hX37 := HX763_2.out
                            (try simp only [add_plain] at hX37)
                            (try simp only [Nat.add_zero] at hv37)
                            replace hv37 := Option.some.inj (hv37.symm.trans hX37)
                            subst hv37
                            clear hX37 hcc37 hcl37
                            have UU37 := Aside0.mk (show Kd.R (Kd.int .i64) 3 _ w.heap.size oki37 (.slice A763_2 ((rd_T62 y762 (x5_2.length : Int)).f2).length c763_2) ((rd_T62 y762 (x5_2.length : Int)).f2) from ge37_2)
                            have HH37 := Aside0.mk hH37
                            have HN37 := Aside0.mk (Kd.S_reads' HO760.out).1
                            clear hH37 ge37_2
                            refine start_ (n := 14) (S := fun w' => w'.cell? ⟨gb756, 0, none⟩ = some (.int .i64 ((rd_T80 l1 x19_2).f0)) ∧ w'.cell? ⟨gb756, 1, none⟩ = some (.int .i64 ((rd_T80 l1 x19_2).f1)) ∧ w'.cell? ⟨gb756, 2, none⟩ = some (.int .i64 ((rd_T80 l1 x19_2).f2)) ∧ w'.cell? ⟨go22, x5_2.length * 3, none⟩ = some (.int .i64 ((rd_T62 y762 (x5_2.length : Int)).f0)) ∧ w'.cell? ⟨go22, x5_2.length * 3 + 1, none⟩ = some (.int .i64 ((rd_T62 y762 (x5_2.length : Int)).f1)) ∧ w'.cell? ⟨go22, x5_2.length * 3 + 2, none⟩ = some (.slice A763_2 ((rd_T62 y762 (x5_2.length : Int)).f2).length c763_2)) (ds := [13]) #[false, false, false, false, false, false, false, false, false, false, false, false, false, false] (by kernel_rfl) rfl rfl ⟨(blk_cell BK756.out 0).trans rfl, (blk_cell BK756.out 1).trans rfl, (blk_cell BK756.out 2).trans rfl, hx763_0, hx763_1, hx763_2⟩ (fun hHeld => ?_); refine with_tabW impl_FirstFit.tab12 impl_FirstFit.bits12 (fun HT_ HW_ => ?_)
                            generalize w35.drew = w36 at HO760 HL761_2 BK752 BK756 HB HH37 HL763_2 HQ34 HR763_2 HX763_2 UU37 hx763_0 hx763_1 hx763_2 hHeld ⊢
                            refine pure_ (i := 0) (N := some 46) (v := ?_) (a' := ?_) #[true, false, false, false, false, false, false, false, false, false, false, false, false, false] rfl rfl (any_of HT_.out (by kernel_rfl)) (fun _ _ _ h => h) (Or.inl ⟨by rfl, ?_⟩) ?_ ?_
                            rotate_left
                            · intro w'
                              go_simp
                              with_reducible rfl
                            rotate_left
                            · simp only [Act.put, List.setIfInBounds_toArray, List.set_cons_zero, List.set_cons_succ, i64_w, i32_w]
                              rfl
                            refine pure_ (i := 1) (N := some 47) (v := ?_) (a' := ?_) #[true, true, false, false, false, false, false, false, false, false, false, false, false, false] rfl rfl (any_of HT_.out (by kernel_rfl)) (fun _ _ _ h => h) (Or.inl ⟨by rfl, ?_⟩) ?_ ?_
                            rotate_left
                            · intro w'
                              go_simp
                              with_reducible rfl
                            rotate_left
                            · simp only [Act.put, List.setIfInBounds_toArray, List.set_cons_zero, List.set_cons_succ, i64_w, i32_w]
                              rfl
                            refine pure_ (i := 2) (N := some 48) (v := ?_) (a' := ?_) #[true, true, true, false, false, false, false, false, false, false, false, false, false, false] rfl rfl (any_of HT_.out (by kernel_rfl)) (fun _ _ _ h => h) (Or.inl ⟨by rfl, ?_⟩) ?_ ?_
                            rotate_left
                            · intro w'
                              go_simp
                              with_reducible rfl
                            rotate_left
                            · simp only [Act.put, List.setIfInBounds_toArray, List.set_cons_zero, List.set_cons_succ, i64_w, i32_w]
                              rfl
                            refine pure_ (i := 3) (N := some 49) (v := ?_) (a' := ?_) #[true, true, true, true, false, false, false, false, false, false, false, false, false, false] rfl rfl (any_of HT_.out (by kernel_rfl)) (fun _ _ _ h => h) (Or.inl ⟨by rfl, ?_⟩) ?_ ?_
                            rotate_left
                            · intro w'
                              go_simp
                              with_reducible rfl
                            rotate_left
                            · simp only [Act.put, List.setIfInBounds_toArray, List.set_cons_zero, List.set_cons_succ, i64_w, i32_w]
                              rfl
                            refine pure_ (i := 4) (N := some 50) (v := ?_) (a' := ?_) #[true, true, true, true, true, false, false, false, false, false, false, false, false, false] rfl rfl (any_of HT_.out (by kernel_rfl)) (fun _ _ _ h => h) (Or.inl ⟨by rfl, ?_⟩) ?_ ?_
                            rotate_left
                            · intro w'
                              go_simp
                              with_reducible rfl
                            rotate_left
                            · simp only [Act.put, List.setIfInBounds_toArray, List.set_cons_zero, List.set_cons_succ, i64_w, i32_w]
                              rfl
                            refine pure_ (i := 5) (N := some 51) (v := ?_) (a' := ?_) #[true, true, true, true, true, true, false, false, false, false, false, false, false, false] rfl rfl (any_of HT_.out (by kernel_rfl)) (fun _ _ _ h => h) (Or.inl ⟨by rfl, ?_⟩) ?_ ?_
                            rotate_left
                            · intro w'
                              go_simp
                              with_reducible rfl
                            rotate_left
                            · simp only [Act.put, List.setIfInBounds_toArray, List.set_cons_zero, List.set_cons_succ, i64_w, i32_w]
                              rfl
                            refine pure_ (i := 7) (N := some 53) (v := ?_) (a' := ?_) #[true, true, true, true, true, true, false, true, false, false, false, false, false, false] rfl rfl (any_of HT_.out (by kernel_rfl)) (fun _ _ _ h => h) (Or.inl ⟨by rfl, ?_⟩) ?_ ?_
                            rotate_left
                            · intro w'
                              go_simp
                              with_reducible rfl
                            rotate_left
                            · simp only [Act.put, List.setIfInBounds_toArray, List.set_cons_zero, List.set_cons_succ, i64_w, i32_w]
                              rfl
                            refine take_ (i := 6) (N := some 52) (v := ?_) (a' := ?_) #[true, true, true, true, true, true, true, true, false, false, false, false, false, false] rfl rfl (take_ofW HT_.out HW_.out (by kernel_rfl)) (fun _ _ _ h => h) (Or.inl ⟨by rfl, ?_⟩) hHeld ?_ ?_
                            rotate_left
                            · rintro w' ⟨s0, s1, s2, s3, s4, s5⟩
                              go_simp
                              with_reducible rfl
                            rotate_left
                            · simp only [Act.put, List.setIfInBounds_toArray, List.set_cons_zero, List.set_cons_succ, i64_w, i32_w]
                              rfl
                            refine take_ (i := 8) (N := some 54) (v := ?_) (a' := ?_) #[true, true, true, true, true, true, true, true, true, false, false, false, false, false] rfl rfl (take_ofW HT_.out HW_.out (by kernel_rfl)) (fun _ _ _ h => h) (Or.inl ⟨by rfl, ?_⟩) hHeld ?_ ?_
                            rotate_left
                            · rintro w' ⟨s0, s1, s2, s3, s4, s5⟩
                              go_simp
                              with_reducible rfl
                            rotate_left
                            · simp only [Act.put, List.setIfInBounds_toArray, List.set_cons_zero, List.set_cons_succ, i64_w, i32_w]
                              rfl
                            refine one_ (i := 9) (N := some 55) #[true, true, true, true, true, true, true, true, true, true, false, false, false, false] rfl rfl (one_of HT_.out (by kernel_rfl)) (by decide) (fun K hK => ?_)
                            refine value_ (w1 := ?_) (v := ?_) (by rfl) rfl ?_ ?_
                            rotate_left 2
                            · go_simp
                              constructor
                              · rfl
                              · rfl
                            refine hK.out _ _ ⟨(blk_cell (blk_alloc BK756.out _) 0).trans rfl, (blk_cell (blk_alloc BK756.out _) 1).trans rfl, (blk_cell (blk_alloc BK756.out _) 2).trans rfl, (World.cell?_alloc_lt _ _ _ (World.block_lt_of_cell? _ _ (hHeld.2.2.2.1))).trans (hHeld.2.2.2.1), (World.cell?_alloc_lt _ _ _ (World.block_lt_of_cell? _ _ (hHeld.2.2.2.2.1))).trans (hHeld.2.2.2.2.1), (World.cell?_alloc_lt _ _ _ (World.block_lt_of_cell? _ _ (hHeld.2.2.2.2.2))).trans (hHeld.2.2.2.2.2)⟩ (fun hHeld => ?_)
                            clear hK K
                            refine norm_ (a' := ?_) ?_ ?_
                            rotate_left
                            · show Act.put _ (some 55) _ = _
                              simp only [Act.put, List.setIfInBounds_toArray, List.set_cons_zero, List.set_cons_succ, i64_w, i32_w]
                              rfl
                            refine one_ (i := 10) (N := some 56) #[true, true, true, true, true, true, true, true, true, true, true, false, false, false] rfl rfl (one_of HT_.out (by kernel_rfl)) (by decide) (fun K hK => ?_)
                            refine Kd.R_append_step (Kd.int .i64) (w0 := w) w.heap.size (by rfl) (.tmp 52) (.tmp 55) 22 3 (.int .i64 0) 8 rfl Try.underlying22 info3 rfl (by decide) (by omega) (.slice A763_2 ((rd_T62 y762 (x5_2.length : Int)).f2).length c763_2) ((rd_T62 y762 (x5_2.length : Int)).f2) ((rd_T80 l1 x19_2).f0) [.int .i64 ((rd_T80 l1 x19_2).f0)] (fun k_ => oki37 k_ ∨ ((fun _ => True)) k_ ∧ w36.heap.size ≤ k_) (fun _ => False) rfl rfl ?aP (fun _ hk => hk.elim) ?aF ?aO ?aB ?aS ?aL ?_
                            (case aP => exact rfl)
                            (case aB => exact (by repeat (first | (with_reducible first | exact HB.out | apply below_alloc | apply pw_below_drewN | apply below_drew1 | refine below_set ?_ GE752.out | refine below_set ?_ GE756.out) | exact HB.out)))
                            (case aF => exact (fun k_ hk => .inr ⟨trivial, hk⟩))
                            (case aO => exact (by (with_reducible repeat (first | apply Kd.R_alloc | apply Kd.R_drewN | apply Kd.R_drew)); exact Kd.R_mono UU37.out (fun _ hk => .inl hk)))
                            (case aS => exact (below_size (by repeat (first | (with_reducible first | exact HB.out | apply below_alloc | apply pw_below_drewN | apply below_drew1 | refine below_set ?_ GE752.out | refine below_set ?_ GE756.out) | exact HB.out))))
                            (case aL => have := LMc23.out; omega)
                            intro v765 w38 ho hb hg hat
                            (first | have HS3_ := cell_grown hg (hHeld.2.2.2.1) (by first | (rw [add_block]; exact (fun e_ => ((HL763_2.out.1 _ e_.symm).2) rfl)) | (show some (Addr.add _ _).block ≠ _; rw [add_block]; exact (fun e_ => ((HL763_2.out.1 _ e_.symm).2) rfl)) | exact (fun e_ => ((HL763_2.out.1 _ e_.symm).2) rfl)) | have HS3_ := cell_grown hg (cell_unalloc (hHeld.2.2.2.1) (by first | (rw [add_block]; exact Kd.S_lt HO760.out _ rfl) | (show (Addr.add _ _).block < _; rw [add_block]; exact Kd.S_lt HO760.out _ rfl) | exact Kd.S_lt HO760.out _ rfl)) (by first | (rw [add_block]; exact (fun e_ => ((HL763_2.out.1 _ e_.symm).2) rfl)) | (show some (Addr.add _ _).block ≠ _; rw [add_block]; exact (fun e_ => ((HL763_2.out.1 _ e_.symm).2) rfl)) | exact (fun e_ => ((HL763_2.out.1 _ e_.symm).2) rfl)))
                            (first | have HS4_ := cell_grown hg (hHeld.2.2.2.2.1) (by first | (rw [add_block]; exact (fun e_ => ((HL763_2.out.1 _ e_.symm).2) rfl)) | (show some (Addr.add _ _).block ≠ _; rw [add_block]; exact (fun e_ => ((HL763_2.out.1 _ e_.symm).2) rfl)) | exact (fun e_ => ((HL763_2.out.1 _ e_.symm).2) rfl)) | have HS4_ := cell_grown hg (cell_unalloc (hHeld.2.2.2.2.1) (by first | (rw [add_block]; exact Kd.S_lt HO760.out _ rfl) | (show (Addr.add _ _).block < _; rw [add_block]; exact Kd.S_lt HO760.out _ rfl) | exact Kd.S_lt HO760.out _ rfl)) (by first | (rw [add_block]; exact (fun e_ => ((HL763_2.out.1 _ e_.symm).2) rfl)) | (show some (Addr.add _ _).block ≠ _; rw [add_block]; exact (fun e_ => ((HL763_2.out.1 _ e_.symm).2) rfl)) | exact (fun e_ => ((HL763_2.out.1 _ e_.symm).2) rfl)))
                            (first | have HS5_ := cell_grown hg (hHeld.2.2.2.2.2) (by first | (rw [add_block]; exact (fun e_ => ((HL763_2.out.1 _ e_.symm).2) rfl)) | (show some (Addr.add _ _).block ≠ _; rw [add_block]; exact (fun e_ => ((HL763_2.out.1 _ e_.symm).2) rfl)) | exact (fun e_ => ((HL763_2.out.1 _ e_.symm).2) rfl)) | have HS5_ := cell_grown hg (cell_unalloc (hHeld.2.2.2.2.2) (by first | (rw [add_block]; exact Kd.S_lt HO760.out _ rfl) | (show (Addr.add _ _).block < _; rw [add_block]; exact Kd.S_lt HO760.out _ rfl) | exact Kd.S_lt HO760.out _ rfl)) (by first | (rw [add_block]; exact (fun e_ => ((HL763_2.out.1 _ e_.symm).2) rfl)) | (show some (Addr.add _ _).block ≠ _; rw [add_block]; exact (fun e_ => ((HL763_2.out.1 _ e_.symm).2) rfl)) | exact (fun e_ => ((HL763_2.out.1 _ e_.symm).2) rfl)))
                            rw [← Ny764.out] at ho
                            have n0_ := Aside0.mk (blk_grown (g := gb752) (o := .cells #[.int .i64 a0_0, .int .i64 a0_1] 49 (0, 0)) (by (with_reducible repeat (first | refine blk_drewN ?_ _ | refine blk_drew ?_ | refine blk_alloc ?_ _)); exact BK752.out) hg (Kd.R_ne HL763_2.out BK752.out (by decide)))
                            have n1_ := Aside0.mk (blk_grown (g := gb756) (o := .cells #[.int .i64 ((rd_T80 l1 x19_2).f0), .int .i64 ((rd_T80 l1 x19_2).f1), .int .i64 ((rd_T80 l1 x19_2).f2)] 80 (0, 0)) (by (with_reducible repeat (first | refine blk_drewN ?_ _ | refine blk_drew ?_ | refine blk_alloc ?_ _)); exact BK756.out) hg (Kd.R_ne HL763_2.out BK756.out (by decide)))
                            have n2_ := Aside0.mk (hb)
                            have n3_ := Aside0.mk (Kd.H_grown (Kd.H_widen (by repeat (first | exact HH37.out | refine Kd.H_alloc ?_ _ | refine Kd.H_drewN ?_ _ | refine Kd.H_drew ?_))) hg (fun k_ e_ => .inl (UU37.out.1 k_ e_)))
                            have n4_ := Aside0.mk (ho)
                            clear BK752
                            clear BK756
                            clear HB
                            clear HH37
                            clear HO760
                            clear UU37
                            clear HL761_2
                            clear HL763_2
                            have BK752 := n0_
                            have BK756 := n1_
                            have HB := n2_
                            have HH37 := n3_
                            have HO766 := n4_
                            clear n0_ n1_ n2_ n3_ n4_
                            clear ho hb hg hat
                            have p24 : 0 ≤ ((x5_2.length : Int) : Int) := of_decide_eq_true (by first | (with_reducible assumption) | assumption)
                            have q24 : ((x5_2.length : Int) : Int) < ((y758.length : Int) : Int) := of_decide_eq_true (by first | (with_reducible assumption) | assumption)
                            replace p24 := eq_true p24
                            replace q24 := eq_true q24
                            obtain ⟨Ao41, co41, eo41⟩ := Kd.R_slice HO766.out
                            (first | subst eo41 | (injection eo41 with f1_ f2_ f3_; have f4_ := f1_.symm; have f5_ := f3_.symm; clear f1_ f2_ f3_; subst f4_; subst f5_))
                            obtain ⟨_, _, hraw39, _, _, hcc39, _⟩ := Kd.H_raw HH37.out (of_decide_eq_true (by first | (with_reducible assumption) | assumption)) (by have h_ : ((x5_2.length : Int) : Int) < ((y758.length : Int) : Int) := of_decide_eq_true (by first | (with_reducible assumption) | assumption); first | exact h_ | (have e_ := (HN37.out); omega) | simpa using h_)
                            obtain ⟨_, hfr39⟩ := Kd.H_at HH37.out (of_decide_eq_true (by first | (with_reducible assumption) | assumption)) (by have h_ : ((x5_2.length : Int) : Int) < ((y758.length : Int) : Int) := of_decide_eq_true (by first | (with_reducible assumption) | assumption); first | exact h_ | (have e_ := (HN37.out); omega) | simpa using h_)
                            have hx39_0 := hcc39 2 _ rfl
                            have hf39_0 := hfr39 2
                            (try rw [show (k62).sz = 3 from rfl] at hx39_0)
                            (try simp only [Int.toNat_natCast] at hx39_0)
                            (try rw [show (k62).sz = 3 from rfl] at hf39_0)
                            (try simp only [Int.toNat_natCast] at hf39_0)
                            have HP39 := Kd.S_seg0 HH37.out (of_decide_eq_true (by first | (with_reducible assumption) | assumption)) (by have h_ : ((x5_2.length : Int) : Int) < ((y758.length : Int) : Int) := of_decide_eq_true (by first | (with_reducible assumption) | assumption); first | exact h_ | (have e_ := (HN37.out); omega) | simpa using h_) (seg := [.slice Ao41 y764.length co41]) (j := 2) (show 3 ≤ 3 from by decide) (x' := (⟨(rd_T62 y762 (x5_2.length : Int)).f0, (rd_T62 y762 (x5_2.length : Int)).f1, y764⟩ : S62)) (k62_mkM _ _ _ (⟨(rd_T62 y762 (x5_2.length : Int)).f0, (rd_T62 y762 (x5_2.length : Int)).f1, y764⟩ : S62) HO766.out) (fun _ hk => hk)
                            clear hcc39 hfr39
                            have HNB752_go22 := Aside0.mk (show gb752 ≠ go22 from by have h_ := Kd.R_ne hraw39 BK752.out (by decide); intro e_; exact h_ (by rw [e_]; rfl))
                            have HNB756_go22 := Aside0.mk (show gb756 ≠ go22 from by have h_ := Kd.R_ne hraw39 BK756.out (by decide); intro e_; exact h_ (by rw [e_]; rfl))
                            have HS39 := HP39.1
                            rw [← Ny767.out] at HS39
                            have HQ39 := Aside0.mk HS39
                            obtain ⟨_, hgg39⟩ := Kd.R_typed hraw39 go22 rfl
                            have GG39_ := Aside0.mk hgg39
                            clear HP39 HS39 hgg39
                            refine hK.out _ _ ⟨(blk_cell BK756.out 0).trans rfl, (blk_cell BK756.out 1).trans rfl, (blk_cell BK756.out 2).trans rfl, HS3_, HS4_, HS5_⟩ (fun hHeld => ?_)
                            clear hK K
                            refine norm_ (a' := ?_) ?_ ?_
                            rotate_left
                            · show Act.put _ (some 56) _ = _
                              simp only [Act.put, List.setIfInBounds_toArray, List.set_cons_zero, List.set_cons_succ, i64_w, i32_w]
                              rfl
                            refine pure_ (i := 11) (N := some 57) (v := ?_) (a' := ?_) #[true, true, true, true, true, true, true, true, true, true, true, true, false, false] rfl rfl (any_of HT_.out (by kernel_rfl)) (fun _ _ _ h => h) (Or.inl ⟨by rfl, ?_⟩) ?_ ?_
                            rotate_left
                            · intro w'
                              go_simp
                              with_reducible rfl
                            rotate_left
                            · simp only [Act.put, List.setIfInBounds_toArray, List.set_cons_zero, List.set_cons_succ, i64_w, i32_w]
                              rfl
                            refine pure_ (i := 12) (N := some 58) (v := ?_) (a' := ?_) #[true, true, true, true, true, true, true, true, true, true, true, true, true, false] rfl rfl (any_of HT_.out (by kernel_rfl)) (fun _ _ _ h => h) (Or.inl ⟨by rfl, ?_⟩) ?_ ?_
                            rotate_left
                            · intro w'
                              go_simp
                              with_reducible rfl
                            rotate_left
                            · simp only [Act.put, List.setIfInBounds_toArray, List.set_cons_zero, List.set_cons_succ, i64_w, i32_w]
                              rfl
                            refine last_ (i := 13) (N := none) #[true, true, true, true, true, true, true, true, true, true, true, true, true, true] rfl rfl (one_of HT_.out (by kernel_rfl)) (by decide) (fun K hK => ?_)
                            refine skip_ (w1 := ?_) (by rfl) rfl ?_ ?_
                            rotate_left
                            · go_simp
                              rfl
                            refine hK.out _ _ ?_
                            clear hK K
                            refine done_ (done_of HT_.out (by kernel_rfl)) ?_
                            try go_wp2
                            go_roundg k2
                            case measure => have := HJ2.out; have := HK2.out; omega
                            case rel => exact ⟨(y767), (wrap64 (x19_2 + 1)), (by first | rfl | (simp; done) | (simp [*]; done)), H', ⟨by have := HJ2.out; have := HK2.out; omega⟩, ⟨by (with_reducible repeat (first | apply Kd.S_alloc | apply Kd.S_drewN | apply Kd.S_drew)); exact HQ39.out⟩, ⟨by (with_reducible repeat (first | refine blk_drewN ?_ _ | refine blk_drew ?_ | refine blk_alloc ?_ _)); refine blk_far ?_ HNB752_go22.out _; (with_reducible repeat (first | refine blk_drewN ?_ _ | refine blk_drew ?_ | refine blk_alloc ?_ _)); exact BK752.out⟩, ⟨by repeat (first | (with_reducible first | exact HB.out | apply below_alloc | apply pw_below_drewN | apply below_drew1 | refine below_set ?_ GB22.out | refine below_set ?_ GE752.out | refine below_set ?_ GE756.out) | exact HB.out)⟩⟩
                          · rw [if_neg c23] at H
                            exact absurd H (by simp)
                        · rw [if_neg c21] at H
                          exact absurd H (by simp)
                      · rw [if_neg c20] at H
                        exact absurd H (by simp)
                    · rw [if_neg c19] at H
                      exact absurd H (by simp)
                  · rw [if_neg c18] at H
                    have c18b0 : decide (t757 < 0) = false := decide_eq_false c18
                    clear c18
                    by_cases c42 : 0 ≤ t757
                    · rw [if_pos c42] at H
                      have c42b0 : decide (0 ≤ t757) = true := decide_eq_true c42
                      clear c42
                      by_cases c43 : t757 < (x5_2.length : Int)
                      · rw [if_pos c43] at H
                        have c43b0 : decide (t757 < (x5_2.length : Int)) = true := decide_eq_true c43
                        clear c43
                        obtain ⟨y769, hy769⟩ : ∃ y_ : List (S62), y_ = (x5_2.set (t757 : Int).toNat (⟨(rd_T62 x5_2 t757).f0, wrap64 (((rd_T62 x5_2 t757).f1) + ((rd_T80 l1 x19_2).f1)), (rd_T62 x5_2 t757).f2⟩ : S62)) := ⟨_, rfl⟩
                        replace H : (if ((rd_T62 y769 t757).f2).length < 17592186044416 then (impl_FirstFit.l0 k2 (y769.set (t757 : Int).toNat (⟨(rd_T62 y769 t757).f0, (rd_T62 y769 t757).f1, (((rd_T62 y769 t757).f2) ++ [(rd_T80 l1 x19_2).f0])⟩ : S62)) l1 (l1.length : Int) (wrap64 (x19_2 + 1)) a0_0 a0_1) else (none)) = some r := by first | (rw [hy769]; with_reducible exact H) | (have H2_ := (Option.bind_some _ _).symm.trans H; rw [hy769]; with_reducible exact H2_) | (have H2_ := (Option.bind_some _ _).symm.trans H; with_reducible exact H2_) | with_reducible exact H | (rw [hy769]; exact H) | exact H
                        have Ny769 := Aside0.mk hy769
                        clear hy769
                        by_cases c45 : ((rd_T62 y769 t757).f2).length < 17592186044416
                        · rw [if_pos c45] at H
                          have LMc45 := Aside0.mk c45
                          clear c45
                          obtain ⟨y771, hy771⟩ : ∃ y_ : List Int, y_ = (((rd_T62 y769 t757).f2) ++ [(rd_T80 l1 x19_2).f0]) := ⟨_, rfl⟩
                          replace H : (impl_FirstFit.l0 k2 (y769.set (t757 : Int).toNat (⟨(rd_T62 y769 t757).f0, (rd_T62 y769 t757).f1, y771⟩ : S62)) l1 (l1.length : Int) (wrap64 (x19_2 + 1)) a0_0 a0_1) = some r := by first | (rw [hy771]; with_reducible exact H) | (have H2_ := (Option.bind_some _ _).symm.trans H; rw [hy771]; with_reducible exact H2_) | (have H2_ := (Option.bind_some _ _).symm.trans H; with_reducible exact H2_) | with_reducible exact H | (rw [hy771]; exact H) | exact H
                          have Ny771 := Aside0.mk hy771
                          clear hy771
                          obtain ⟨y774, hy774⟩ : ∃ y_ : List (S62), y_ = (y769.set (t757 : Int).toNat (⟨(rd_T62 y769 t757).f0, (rd_T62 y769 t757).f1, y771⟩ : S62)) := ⟨_, rfl⟩
                          replace H : (impl_FirstFit.l0 k2 y774 l1 (l1.length : Int) (wrap64 (x19_2 + 1)) a0_0 a0_1) = some r := by first | (rw [hy774]; with_reducible exact H) | (have H2_ := (Option.bind_some _ _).symm.trans H; rw [hy774]; with_reducible exact H2_) | (have H2_ := (Option.bind_some _ _).symm.trans H; with_reducible exact H2_) | with_reducible exact H | (rw [hy774]; exact H) | exact H
                          have Ny774 := Aside0.mk hy774
                          clear hy774
                          have H' := Aside0.mk H
                          clear H
                          have p755 : 0 ≤ (x19_2 : Int) := of_decide_eq_true (by first | (with_reducible assumption) | assumption)
                          have q755 : x19_2 < (l1.length : Int) := of_decide_eq_true (by first | (with_reducible assumption) | assumption)
                          obtain ⟨ad755, e755, hx755_0, hx755_1, hx755_2⟩ := at_T80 HR1.out x19_2 p755 q755
                          cases e755
                          replace hx755_0 := (HB.out.cell (World.block_lt_of_cell? w _ hx755_0)).trans hx755_0
                          replace hx755_1 := (HB.out.cell (World.block_lt_of_cell? w _ hx755_1)).trans hx755_1
                          replace hx755_2 := (HB.out.cell (World.block_lt_of_cell? w _ hx755_2)).trans hx755_2
                          replace p755 := eq_true p755
                          replace q755 := eq_true q755
                          try go_wp2_with (first | ((with_reducible refine gate_dst (N := 7) rfl ?_); refine box_event ?hg (N := 7) ?hd (cs := #[.int .i64 0, .int .i64 0, .int .i64 0]) (t := 80) ?hr ?_; (case hd => rfl); (case hg => rfl); (case hr => first | (go_simp; done) | (go_simp; rfl)); intro gb756 hg w47 hbox hb; have n0_ := Aside0.mk (Kd.S_below (by (with_reducible repeat (first | apply Kd.S_alloc | apply Kd.S_drewN | apply Kd.S_drew)); exact HO_5.out) hb); have n1_ := Aside0.mk (blk_below (g := gb752) (o := .cells #[.int .i64 a0_0, .int .i64 a0_1] 49 (0, 0)) (by (with_reducible repeat (first | refine blk_drewN ?_ _ | refine blk_drew ?_ | refine blk_alloc ?_ _)); exact BK752.out) hb); have n2_ := Aside0.mk (below_step (by repeat (first | (with_reducible first | exact HB.out | apply below_alloc | apply pw_below_drewN | apply below_drew1 | refine below_set ?_ GE752.out) | exact HB.out)) hb); have n3_ := Aside0.mk (hbox); have n4_ := Aside0.mk ((by rw [hg]; exact (below_size (by repeat (first | (with_reducible first | exact HB.out | apply below_alloc | apply pw_below_drewN | apply below_drew1 | refine below_set ?_ GE752.out) | exact HB.out))) : w.heap.size ≤ gb756)); have n5_ := Aside0.mk ((by rw [hg]; exact (below_size (by repeat (first | (with_reducible first | exact HB.out | apply below_alloc | apply pw_below_drewN | apply below_drew1 | refine below_set ?_ GE752.out) | exact HB.out))) : w.heap.size ≤ gb756)); have n6_ := Aside0.mk ((by rw [hg]; exact Nat.ne_of_lt (blk_lt (g := gb752) (o := .cells #[.int .i64 a0_0, .int .i64 a0_1] 49 (0, 0)) (by (with_reducible repeat (first | refine blk_drewN ?_ _ | refine blk_drew ?_ | refine blk_alloc ?_ _)); exact BK752.out)) : gb752 ≠ gb756)); have n7_ := Aside0.mk ((by rw [hg]; exact Nat.ne_of_gt (blk_lt (g := gb752) (o := .cells #[.int .i64 a0_0, .int .i64 a0_1] 49 (0, 0)) (by (with_reducible repeat (first | refine blk_drewN ?_ _ | refine blk_drew ?_ | refine blk_alloc ?_ _)); exact BK752.out)) : gb756 ≠ gb752)); clear HO_5; clear BK752; clear HB; have HO_5 := n0_; have BK752 := n1_; have HB := n2_; have BK756 := n3_; have GW756 := n4_; have GE756 := n5_; have NB752_756 := n6_; have NB756_752 := n7_; clear n0_ n1_ n2_ n3_ n4_ n5_ n6_ n7_; clear hb hbox hg; have hnb48 := NB756_752.out; have hnc48 := NB752_756.out; have hcz49_0 : w47.cell? ⟨gb756, 0, none⟩ = some (.int .i64 0) := (blk_cell BK756.out 0).trans rfl; have hcz49_1 : w47.cell? ⟨gb756, 1, none⟩ = some (.int .i64 0) := (blk_cell BK756.out 1).trans rfl; have hcz49_2 : w47.cell? ⟨gb756, 2, none⟩ = some (.int .i64 0) := (blk_cell BK756.out 2).trans rfl; have hfz49_0 := blk_frozen BK756.out 0; have hfz49_1 := blk_frozen BK756.out 1; have hfz49_2 := blk_frozen BK756.out 2; obtain ⟨Ao50, co50, eo50⟩ := Kd.S_slice HO_5.out; subst eo50) | ((with_reducible refine gate_callee (f := 81) rfl ?_); refine goesL_ (some 25) rfl rfl Try.func81 (by kernel_rfl) rfl #[.slice Ao50 x5_2.length co50, .func (.func 82) #[] #[.pointer (some ⟨gb756, 0, none⟩), .pointer (some ⟨gb752, 0, none⟩)]] rfl (by (try simp only [List.map_toArray, List.map_cons, List.map_nil]); first | done | rfl | (simp only [List.length_drop, List.length_take]; rfl)) ?_; (with_reducible refine (impl_FirstFit_1__slices_IndexFunc_impl_Box.calls _ _ x5_2 ((rd_T80 l1 x19_2).f0) ((rd_T80 l1 x19_2).f1) ((rd_T80 l1 x19_2).f2) a0_0 a0_1 gb756 gb752 t757 _ ?side1 ?side2 ?side3 ?side4 A17.out).mono ?_); (case side1 => refine (Kd.S_reads' (e := 62) (base := w.heap.size) (ok := fun k_ => True) (n := x5_2.length) (c := co50) ?_).2.2; exact (by (with_reducible repeat (first | apply Kd.S_alloc | apply Kd.S_drewN | apply Kd.S_drew)); exact (Kd.S_mono (Kd.S_far (p := ⟨gb756, 2, none⟩) (Kd.S_far (p := ⟨gb756, 1, none⟩) (Kd.S_far (p := ⟨gb756, 0, none⟩) (Kd.S_types HO_5.out BK756.out (by decide)) (fun _ hk => hk.2) (.int .i64 ((rd_T80 l1 x19_2).f0))) (fun _ hk => hk.2) (.int .i64 ((rd_T80 l1 x19_2).f1))) (fun _ hk => hk.2) (.int .i64 ((rd_T80 l1 x19_2).f2))) (fun _ h_ => h_.1)))); (case side2 => exact (Kd.S_reads' HO_5.out).2.1); (case side3 => exact (by (with_reducible repeat (first | refine blk_drewN ?_ _ | refine blk_drew ?_ | refine blk_alloc ?_ _)); refine blk_put (cs := #[.int .i64 ((rd_T80 l1 x19_2).f0), .int .i64 ((rd_T80 l1 x19_2).f1), .int .i64 0]) ?_ 2 _ rfl; (with_reducible repeat (first | refine blk_drewN ?_ _ | refine blk_drew ?_ | refine blk_alloc ?_ _)); refine blk_put (cs := #[.int .i64 ((rd_T80 l1 x19_2).f0), .int .i64 0, .int .i64 0]) ?_ 1 _ rfl; (with_reducible repeat (first | refine blk_drewN ?_ _ | refine blk_drew ?_ | refine blk_alloc ?_ _)); refine blk_put (cs := #[.int .i64 0, .int .i64 0, .int .i64 0]) ?_ 0 _ rfl; (with_reducible repeat (first | refine blk_drewN ?_ _ | refine blk_drew ?_ | refine blk_alloc ?_ _)); exact BK756.out)); (case side4 => exact (by (with_reducible repeat (first | refine blk_drewN ?_ _ | refine blk_drew ?_ | refine blk_alloc ?_ _)); refine blk_far ?_ NB752_756.out _; (with_reducible repeat (first | refine blk_drewN ?_ _ | refine blk_drew ?_ | refine blk_alloc ?_ _)); refine blk_far ?_ NB752_756.out _; (with_reducible repeat (first | refine blk_drewN ?_ _ | refine blk_drew ?_ | refine blk_alloc ?_ _)); refine blk_far ?_ NB752_756.out _; (with_reducible repeat (first | refine blk_drewN ?_ _ | refine blk_drew ?_ | refine blk_alloc ?_ _)); exact BK752.out)); rintro e w51 ⟨rfl, hb⟩; refine ⟨_, rfl, ?_⟩; have n0_ := Aside0.mk (Kd.S_below (by (with_reducible repeat (first | apply Kd.S_alloc | apply Kd.S_drewN | apply Kd.S_drew)); exact (Kd.S_mono (Kd.S_far (p := ⟨gb756, 2, none⟩) (Kd.S_far (p := ⟨gb756, 1, none⟩) (Kd.S_far (p := ⟨gb756, 0, none⟩) (Kd.S_types HO_5.out BK756.out (by decide)) (fun _ hk => hk.2) (.int .i64 ((rd_T80 l1 x19_2).f0))) (fun _ hk => hk.2) (.int .i64 ((rd_T80 l1 x19_2).f1))) (fun _ hk => hk.2) (.int .i64 ((rd_T80 l1 x19_2).f2))) (fun _ h_ => h_.1))) hb); have n1_ := Aside0.mk (blk_below (g := gb752) (o := .cells #[.int .i64 a0_0, .int .i64 a0_1] 49 (0, 0)) (by (with_reducible repeat (first | refine blk_drewN ?_ _ | refine blk_drew ?_ | refine blk_alloc ?_ _)); refine blk_far ?_ NB752_756.out _; (with_reducible repeat (first | refine blk_drewN ?_ _ | refine blk_drew ?_ | refine blk_alloc ?_ _)); refine blk_far ?_ NB752_756.out _; (with_reducible repeat (first | refine blk_drewN ?_ _ | refine blk_drew ?_ | refine blk_alloc ?_ _)); refine blk_far ?_ NB752_756.out _; (with_reducible repeat (first | refine blk_drewN ?_ _ | refine blk_drew ?_ | refine blk_alloc ?_ _)); exact BK752.out) hb); have n2_ := Aside0.mk (blk_below (g := gb756) (o := .cells #[.int .i64 ((rd_T80 l1 x19_2).f0), .int .i64 ((rd_T80 l1 x19_2).f1), .int .i64 ((rd_T80 l1 x19_2).f2)] 80 (0, 0)) (by (with_reducible repeat (first | refine blk_drewN ?_ _ | refine blk_drew ?_ | refine blk_alloc ?_ _)); refine blk_put (cs := #[.int .i64 ((rd_T80 l1 x19_2).f0), .int .i64 ((rd_T80 l1 x19_2).f1), .int .i64 0]) ?_ 2 _ rfl; (with_reducible repeat (first | refine blk_drewN ?_ _ | refine blk_drew ?_ | refine blk_alloc ?_ _)); refine blk_put (cs := #[.int .i64 ((rd_T80 l1 x19_2).f0), .int .i64 0, .int .i64 0]) ?_ 1 _ rfl; (with_reducible repeat (first | refine blk_drewN ?_ _ | refine blk_drew ?_ | refine blk_alloc ?_ _)); refine blk_put (cs := #[.int .i64 0, .int .i64 0, .int .i64 0]) ?_ 0 _ rfl; (with_reducible repeat (first | refine blk_drewN ?_ _ | refine blk_drew ?_ | refine blk_alloc ?_ _)); exact BK756.out) hb); have n3_ := Aside0.mk (below_step (by repeat (first | (with_reducible first | exact HB.out | apply below_alloc | apply pw_below_drewN | apply below_drew1 | refine below_set ?_ GE752.out | refine below_set ?_ GE756.out) | exact HB.out)) hb); clear HO_5; clear BK752; clear BK756; clear HB; have HO_5 := n0_; have BK752 := n1_; have BK756 := n2_; have HB := n3_; clear n0_ n1_ n2_ n3_; (try clear hb); (try clear hb2); (try clear hk); (try clear hi)))
                          have n0_ := Aside0.mk (Kd.S_drew HO_5.out)
                          have n1_ := Aside0.mk (blk_drew BK752.out)
                          have n2_ := Aside0.mk (blk_drew BK756.out)
                          have n3_ := Aside0.mk (below_drew1 HB.out)
                          clear HO_5
                          clear BK752
                          clear BK756
                          clear HB
                          have HO_5 := n0_
                          have BK752 := n1_
                          have BK756 := n2_
                          have HB := n3_
                          clear n0_ n1_ n2_ n3_
                          have p768 : 0 ≤ (t757 : Int) := of_decide_eq_true (by first | (with_reducible assumption) | assumption)
                          have q768 : t757 < (x5_2.length : Int) := of_decide_eq_true (by first | (with_reducible assumption) | assumption)
                          obtain ⟨ad768, A768_2, c768_2, e768, hx768_0, hx768_1, hx768_2, hl768_2, hi768_2⟩ := at_T62 (Kd.S_reads' HO_5.out).2.2 t757 p768 q768
                          cases e768
                          obtain ⟨ce768, hce768, hMe768, hcc768⟩ := Kd.S_get HO_5.out z62 t757 p768 (by first | exact q768 | exact of_decide_eq_true (by first | (with_reducible assumption) | assumption) | (have e_ := (Kd.S_reads' HO_5.out).1; omega))
                          obtain ⟨ve768_2, rfl, ge768_2⟩ := k62_openM hMe768
                          have hv768_2 := hcc768 2 _ rfl
                          rw [add_field _ _ 2 (by omega)] at hv768_2
                          replace hv768_2 := Option.some.inj (hv768_2.symm.trans hx768_2)
                          rw [hv768_2] at ge768_2
                          have HL768_2 := Aside0.mk (show Kd.R (Kd.int .i64) 3 _ _ _ _ ((rd_T62 x5_2 t757).f2) from ge768_2)
                          clear hv768_2 ge768_2
                          have HX768_2 := Aside0.mk hx768_2
                          clear hcc768 hce768
                          have HR768_2 := Aside0.mk hi768_2
                          have HC768_2 := Aside0.mk hl768_2
                          clear hi768_2 hl768_2
                          replace p768 := eq_true p768
                          replace q768 := eq_true q768
                          have p44 : 0 ≤ (t757 : Int) := of_decide_eq_true (by first | (with_reducible assumption) | assumption)
                          have q44 : (t757 : Int) < ((x5_2.length : Int) : Int) := of_decide_eq_true (by first | (with_reducible assumption) | assumption)
                          obtain ⟨go44, co44, eo44, gb44, gl44, cl44, HG44⟩ := Kd.S_form HO_5.out (by omega)
                          (first | cases eo44 | (injection eo44 with ea_ en_ ec_; (first | subst ea_ | (injection ea_ with ea_; subst ea_)); subst ec_; clear en_))
                          have GB44 := Aside0.mk gb44
                          have GG44 := Aside0.mk HG44
                          clear gb44 gl44 HG44
                          (first | simp only [add_plain] at hx768_0 | skip)
                          (first | simp only [add_plain] at hx768_1 | skip)
                          (first | simp only [add_plain] at hx768_2 | skip)
                          obtain ⟨_, ce44, hcl44, hM44, hcc44, hfr44, _, _⟩ := Kd.S_elem HO_5.out z62 (t757 : Int) p44 q44
                          obtain ⟨ve44_2, rfl, ge44_2⟩ := k62_openM hM44
                          have hx44_0 : World.cell? _ ⟨go44, (t757 : Int).toNat * 3, none⟩ = some (.int .i64 ((rd_T62 x5_2 t757).f0)) := hcc44 0 _ rfl
                          have hx44_1 : World.cell? _ ⟨go44, (t757 : Int).toNat * 3 + 1, none⟩ = some (.int .i64 ((rd_T62 x5_2 t757).f1)) := hcc44 1 _ rfl
                          have hx44_2 : World.cell? _ ⟨go44, (t757 : Int).toNat * 3 + 2, none⟩ = some (ve44_2) := hcc44 2 _ rfl
                          have hf44_0 : World.frozen? _ ⟨go44, (t757 : Int).toNat * 3, none⟩ = false := hfr44 0
                          have hf44_1 : World.frozen? _ ⟨go44, (t757 : Int).toNat * 3 + 1, none⟩ = false := hfr44 1
                          have hf44_2 : World.frozen? _ ⟨go44, (t757 : Int).toNat * 3 + 2, none⟩ = false := hfr44 2
                          clear hcl44 hcc44 hfr44 hM44
                          replace p44 := eq_true p44
                          replace q44 := eq_true q44
                          have HX53 := Aside0.mk (show Kd.S k62 62 _ w.heap.size (fun k_ => ((fun _ => True)) k_ ∧ ¬ (fun _ => False) k_) (.slice (some ⟨go44, 0, none⟩) x5_2.length co50) x5_2 from (by exact Kd.S_mono HO_5.out (fun k_ hk => ⟨trivial, fun e_ => e_⟩)))
                          obtain ⟨oki53, ce53, hcl53, hM53, hcc53, hfr53, hoki53, hH53⟩ := Kd.S_elem HX53.out z62 (t757 : Int) (of_decide_eq_true (by first | (with_reducible assumption) | assumption)) (by have h_ : (t757 : Int) < ((x5_2.length : Int) : Int) := of_decide_eq_true (by first | (with_reducible assumption) | assumption); first | exact h_ | (have e_ := (Kd.S_reads' HO_5.out).1; omega) | simpa using h_)
                          obtain ⟨ve53_2, rfl, ge53_2⟩ := k62_openM hM53
                          have HP53 := (Kd.S_seg hH53 (of_decide_eq_true (by first | (with_reducible assumption) | assumption)) (by have h_ : (t757 : Int) < ((x5_2.length : Int) : Int) := of_decide_eq_true (by first | (with_reducible assumption) | assumption); first | exact h_ | (have e_ := (Kd.S_reads' HO_5.out).1; omega) | simpa using h_) (seg := [.int .i64 (wrap64 (((rd_T62 x5_2 t757).f1) + ((rd_T80 l1 x19_2).f1)))]) (j := 1) (show 2 ≤ 3 from by decide) (x' := (⟨(rd_T62 x5_2 t757).f0, wrap64 (((rd_T62 x5_2 t757).f1) + ((rd_T80 l1 x19_2).f1)), (rd_T62 x5_2 t757).f2⟩ : S62)) (k62_mkM _ _ _ (⟨(rd_T62 x5_2 t757).f0, wrap64 (((rd_T62 x5_2 t757).f1) + ((rd_T80 l1 x19_2).f1)), (rd_T62 x5_2 t757).f2⟩ : S62) ge53_2) (fun _ hk => Or.inl hk) (fun _ hk => hk.elim)).1
                          rw [← Ny769.out] at HP53
                          have HQ53 := Aside0.mk HP53
                          clear hcl53 hcc53 hfr53 hM53 HP53
                          refine start_ (n := 11) (S := fun w' => w'.cell? ⟨gb756, 0, none⟩ = some (.int .i64 ((rd_T80 l1 x19_2).f0)) ∧ w'.cell? ⟨gb756, 1, none⟩ = some (.int .i64 ((rd_T80 l1 x19_2).f1)) ∧ w'.cell? ⟨gb756, 2, none⟩ = some (.int .i64 ((rd_T80 l1 x19_2).f2)) ∧ w'.cell? ⟨go44, ((t757).toNat * 3), none⟩ = some (.int .i64 ((rd_T62 x5_2 t757).f0)) ∧ w'.cell? ⟨go44, ((t757).toNat * 3) + 1, none⟩ = some (.int .i64 ((rd_T62 x5_2 t757).f1)) ∧ w'.cell? ⟨go44, ((t757).toNat * 3) + 2, none⟩ = some (.slice A768_2 ((rd_T62 x5_2 t757).f2).length c768_2)) (ds := [10]) #[false, false, false, false, false, false, false, false, false, false, false] (by kernel_rfl) rfl rfl ⟨(blk_cell BK756.out 0).trans rfl, (blk_cell BK756.out 1).trans rfl, (blk_cell BK756.out 2).trans rfl, hx768_0, hx768_1, hx768_2⟩ (fun hHeld => ?_); refine with_tabW impl_FirstFit.tab11 impl_FirstFit.bits11 (fun HT_ HW_ => ?_)
                          generalize w51.drew = w52 at HO_5 BK752 BK756 HB GG44 HL768_2 HQ53 HR768_2 HX768_2 hf44_0 hf44_1 hf44_2 hx44_0 hx44_1 hx44_2 hx768_0 hx768_1 hx768_2 hHeld ⊢
                          refine pure_ (i := 0) (N := some 36) (v := ?_) (a' := ?_) #[true, false, false, false, false, false, false, false, false, false, false] rfl rfl (any_of HT_.out (by kernel_rfl)) (fun _ _ _ h => h) (Or.inl ⟨by rfl, ?_⟩) ?_ ?_
                          rotate_left
                          · intro w'
                            go_simp
                            with_reducible rfl
                          rotate_left
                          · simp only [Act.put, List.setIfInBounds_toArray, List.set_cons_zero, List.set_cons_succ, i64_w, i32_w]
                            rfl
                          refine pure_ (i := 1) (N := some 37) (v := ?_) (a' := ?_) #[true, true, false, false, false, false, false, false, false, false, false] rfl rfl (any_of HT_.out (by kernel_rfl)) (fun _ _ _ h => h) (Or.inl ⟨by rfl, ?_⟩) ?_ ?_
                          rotate_left
                          · intro w'
                            go_simp
                            with_reducible rfl
                          rotate_left
                          · simp only [Act.put, List.setIfInBounds_toArray, List.set_cons_zero, List.set_cons_succ, i64_w, i32_w]
                            rfl
                          refine pure_ (i := 2) (N := some 38) (v := ?_) (a' := ?_) #[true, true, true, false, false, false, false, false, false, false, false] rfl rfl (any_of HT_.out (by kernel_rfl)) (fun _ _ _ h => h) (Or.inl ⟨by rfl, ?_⟩) ?_ ?_
                          rotate_left
                          · intro w'
                            go_simp
                            with_reducible rfl
                          rotate_left
                          · simp only [Act.put, List.setIfInBounds_toArray, List.set_cons_zero, List.set_cons_succ, i64_w, i32_w]
                            rfl
                          refine pure_ (i := 3) (N := some 39) (v := ?_) (a' := ?_) #[true, true, true, true, false, false, false, false, false, false, false] rfl rfl (any_of HT_.out (by kernel_rfl)) (fun _ _ _ h => h) (Or.inl ⟨by rfl, ?_⟩) ?_ ?_
                          rotate_left
                          · intro w'
                            go_simp
                            with_reducible rfl
                          rotate_left
                          · simp only [Act.put, List.setIfInBounds_toArray, List.set_cons_zero, List.set_cons_succ, i64_w, i32_w]
                            rfl
                          refine pure_ (i := 5) (N := some 41) (v := ?_) (a' := ?_) #[true, true, true, true, false, true, false, false, false, false, false] rfl rfl (any_of HT_.out (by kernel_rfl)) (fun _ _ _ h => h) (Or.inl ⟨by rfl, ?_⟩) ?_ ?_
                          rotate_left
                          · intro w'
                            go_simp
                            with_reducible rfl
                          rotate_left
                          · simp only [Act.put, List.setIfInBounds_toArray, List.set_cons_zero, List.set_cons_succ, i64_w, i32_w]
                            rfl
                          refine take_ (i := 4) (N := some 40) (v := ?_) (a' := ?_) #[true, true, true, true, true, true, false, false, false, false, false] rfl rfl (take_ofW HT_.out HW_.out (by kernel_rfl)) (fun _ _ _ h => h) (Or.inl ⟨by rfl, ?_⟩) hHeld ?_ ?_
                          rotate_left
                          · rintro w' ⟨s0, s1, s2, s3, s4, s5⟩
                            go_simp
                            with_reducible rfl
                          rotate_left
                          · simp only [Act.put, List.setIfInBounds_toArray, List.set_cons_zero, List.set_cons_succ, i64_w, i32_w]
                            rfl
                          refine take_ (i := 6) (N := some 42) (v := ?_) (a' := ?_) #[true, true, true, true, true, true, true, false, false, false, false] rfl rfl (take_ofW HT_.out HW_.out (by kernel_rfl)) (fun _ _ _ h => h) (Or.inl ⟨by rfl, ?_⟩) hHeld ?_ ?_
                          rotate_left
                          · rintro w' ⟨s0, s1, s2, s3, s4, s5⟩
                            go_simp
                            with_reducible rfl
                          rotate_left
                          · simp only [Act.put, List.setIfInBounds_toArray, List.set_cons_zero, List.set_cons_succ, i64_w, i32_w]
                            rfl
                          refine pure_ (i := 7) (N := some 43) (v := ?_) (a' := ?_) #[true, true, true, true, true, true, true, true, false, false, false] rfl rfl (any_of HT_.out (by kernel_rfl)) (fun _ _ _ h => h) (Or.inl ⟨by rfl, ?_⟩) ?_ ?_
                          rotate_left
                          · intro w'
                            go_simp
                            with_reducible rfl
                          rotate_left
                          · simp only [Act.put, List.setIfInBounds_toArray, List.set_cons_zero, List.set_cons_succ, i64_w, i32_w]
                            rfl
                          refine pure_ (i := 8) (N := some 44) (v := ?_) (a' := ?_) #[true, true, true, true, true, true, true, true, true, false, false] rfl rfl (any_of HT_.out (by kernel_rfl)) (fun _ _ _ h => h) (Or.inl ⟨by rfl, ?_⟩) ?_ ?_
                          rotate_left
                          · intro w'
                            go_simp
                            with_reducible rfl
                          rotate_left
                          · simp only [Act.put, List.setIfInBounds_toArray, List.set_cons_zero, List.set_cons_succ, i64_w, i32_w]
                            rfl
                          refine pure_ (i := 9) (N := some 45) (v := ?_) (a' := ?_) #[true, true, true, true, true, true, true, true, true, true, false] rfl rfl (any_of HT_.out (by kernel_rfl)) (fun _ _ _ h => h) (Or.inl ⟨by rfl, ?_⟩) ?_ ?_
                          rotate_left
                          · intro w'
                            go_simp
                            with_reducible rfl
                          rotate_left
                          · simp only [Act.put, List.setIfInBounds_toArray, List.set_cons_zero, List.set_cons_succ, i64_w, i32_w]
                            rfl
                          refine last_ (i := 10) (N := none) #[true, true, true, true, true, true, true, true, true, true, true] rfl rfl (one_of HT_.out (by kernel_rfl)) (by decide) (fun K hK => ?_)
                          refine skip_ (w1 := ?_) (by rfl) rfl ?_ ?_
                          rotate_left
                          · go_simp
                            rfl
                          refine hK.out _ _ ?_
                          clear hK K
                          refine done_ (done_of HT_.out (by kernel_rfl)) ?_
                          try go_wp2
                          have n0_ : Aside0 (Kd.S k62 62 (w52.setCell ⟨go44, (t757 : Int).toNat * 3 + 1, none⟩ (.int .i64 (wrap64 (((rd_T62 x5_2 t757).f1) + ((rd_T80 l1 x19_2).f1))))) w.heap.size (fun _ => True) (.slice (some ⟨go44, 0, none⟩) x5_2.length co50) y769) := ⟨by (with_reducible repeat (first | apply Kd.S_alloc | apply Kd.S_drewN | apply Kd.S_drew)); exact HQ53.out⟩
                          have n1_ : Aside0 (Kd.R (Kd.int .i64) 3 (w52.setCell ⟨go44, (t757 : Int).toNat * 3 + 1, none⟩ (.int .i64 (wrap64 (((rd_T62 x5_2 t757).f1) + ((rd_T80 l1 x19_2).f1))))) w.heap.size (fun k_ => some k_ ≠ (.slice (some ⟨go44, 0, none⟩) x5_2.length co50 : Value).ownBlock) (.slice A768_2 ((rd_T62 x5_2 t757).f2).length c768_2) ((rd_T62 x5_2 t757).f2)) := ⟨by (with_reducible repeat (first | apply Kd.R_alloc | apply Kd.R_drewN | apply Kd.R_drew)); exact Kd.R_mono (Kd.R_far (p := ⟨go44, (t757 : Int).toNat * 3 + 1, none⟩) (Kd.R_types HL768_2.out GG44.out (by decide)) (fun _ hk => hk.2) (.int .i64 (wrap64 (((rd_T62 x5_2 t757).f1) + ((rd_T80 l1 x19_2).f1))))) (fun _ hk => hk.1.2)⟩
                          have n2_ : Aside0 ((w52.setCell ⟨go44, (t757 : Int).toNat * 3 + 1, none⟩ (.int .i64 (wrap64 (((rd_T62 x5_2 t757).f1) + ((rd_T80 l1 x19_2).f1))))).heap[gb752]? = some (.cells #[.int .i64 a0_0, .int .i64 a0_1] 49 (0, 0))) := ⟨by (with_reducible repeat (first | refine blk_drewN ?_ _ | refine blk_drew ?_ | refine blk_alloc ?_ _)); refine blk_far ?_ (by have h_ := Kd.S_ne HO_5.out BK752.out (by decide); intro e_; exact h_ (by rw [e_]; rfl)) _; (with_reducible repeat (first | refine blk_drewN ?_ _ | refine blk_drew ?_ | refine blk_alloc ?_ _)); exact BK752.out⟩
                          have n3_ : Aside0 ((w52.setCell ⟨go44, (t757 : Int).toNat * 3 + 1, none⟩ (.int .i64 (wrap64 (((rd_T62 x5_2 t757).f1) + ((rd_T80 l1 x19_2).f1))))).heap[gb756]? = some (.cells #[.int .i64 ((rd_T80 l1 x19_2).f0), .int .i64 ((rd_T80 l1 x19_2).f1), .int .i64 ((rd_T80 l1 x19_2).f2)] 80 (0, 0))) := ⟨by (with_reducible repeat (first | refine blk_drewN ?_ _ | refine blk_drew ?_ | refine blk_alloc ?_ _)); refine blk_far ?_ (by have h_ := Kd.S_ne HO_5.out BK756.out (by decide); intro e_; exact h_ (by rw [e_]; rfl)) _; (with_reducible repeat (first | refine blk_drewN ?_ _ | refine blk_drew ?_ | refine blk_alloc ?_ _)); exact BK756.out⟩
                          have n4_ : Aside0 (Below w.heap.size w (w52.setCell ⟨go44, (t757 : Int).toNat * 3 + 1, none⟩ (.int .i64 (wrap64 (((rd_T62 x5_2 t757).f1) + ((rd_T80 l1 x19_2).f1)))))) := ⟨by repeat (first | (with_reducible first | exact HB.out | apply below_alloc | apply pw_below_drewN | apply below_drew1 | refine below_set ?_ GB44.out | refine below_set ?_ GE752.out | refine below_set ?_ GE756.out) | exact HB.out)⟩
                          (try clear HO_5)
                          (try clear HL768_2)
                          (try clear BK752)
                          (try clear BK756)
                          (try clear HB)
                          generalize (w52.setCell ⟨go44, (t757 : Int).toNat * 3 + 1, none⟩ (.int .i64 (wrap64 (((rd_T62 x5_2 t757).f1) + ((rd_T80 l1 x19_2).f1))))) = w54 at n0_ n1_ n2_ n3_ n4_ ⊢
                          have HO_5 := n0_
                          have HL768_2 := n1_
                          have BK752 := n2_
                          have BK756 := n3_
                          have HB := n4_
                          clear n0_ n1_ n2_ n3_ n4_
                          have n0_ := Aside0.mk (Kd.S_drew HO_5.out)
                          have n1_ := Aside0.mk (Kd.R_drew HL768_2.out)
                          have n2_ := Aside0.mk (blk_drew BK752.out)
                          have n3_ := Aside0.mk (blk_drew BK756.out)
                          have n4_ := Aside0.mk (below_drew1 HB.out)
                          clear HO_5
                          clear HL768_2
                          clear BK752
                          clear BK756
                          clear HB
                          have HO_5 := n0_
                          have HL768_2 := n1_
                          have BK752 := n2_
                          have BK756 := n3_
                          have HB := n4_
                          clear n0_ n1_ n2_ n3_ n4_
                          have p770 : 0 ≤ (t757 : Int) := of_decide_eq_true (by first | (with_reducible assumption) | assumption)
                          have q770 : t757 < (y769.length : Int) := (by have h_ : (t757 : Int) < ((x5_2.length : Int) : Int) := of_decide_eq_true (by first | (with_reducible assumption) | assumption); first | (have e_ := (Kd.S_reads' HO_5.out).1; omega) | simpa only [Ny769.out, List.length_set] using h_)
                          have ql770 : ((t757 : Int) < ((x5_2.length : Int) : Int)) = True := eq_true (of_decide_eq_true (by first | (with_reducible assumption) | assumption))
                          obtain ⟨ad770, A770_2, c770_2, e770, hx770_0, hx770_1, hx770_2, hl770_2, hi770_2⟩ := at_T62 (Kd.S_reads' HO_5.out).2.2 t757 p770 q770
                          obtain rfl : (⟨go44, 0, none⟩ : Addr) = ad770 := (by injection e770)
                          obtain ⟨ce770, hce770, hMe770, hcc770⟩ := Kd.S_get HO_5.out z62 t757 p770 (by first | exact q770 | exact of_decide_eq_true (by first | (with_reducible assumption) | assumption) | (have e_ := (Kd.S_reads' HO_5.out).1; omega))
                          obtain ⟨ve770_2, rfl, ge770_2⟩ := k62_openM hMe770
                          have hv770_2 := hcc770 2 _ rfl
                          rw [add_field _ _ 2 (by omega)] at hv770_2
                          replace hv770_2 := Option.some.inj (hv770_2.symm.trans hx770_2)
                          rw [hv770_2] at ge770_2
                          have HL770_2 := Aside0.mk (show Kd.R (Kd.int .i64) 3 _ _ _ _ ((rd_T62 y769 t757).f2) from ge770_2)
                          clear hv770_2 ge770_2
                          have HX770_2 := Aside0.mk hx770_2
                          clear hcc770 hce770
                          (first | simp only [add_plain] at hx770_0 | simp only [add_at] at hx770_0 | simp only [Addr.add, Nat.zero_add] at hx770_0 | skip)
                          (first | simp only [add_plain] at hx770_1 | simp only [add_at] at hx770_1 | simp only [Addr.add, Nat.zero_add] at hx770_1 | skip)
                          (first | simp only [add_plain] at hx770_2 | simp only [add_at] at hx770_2 | simp only [Addr.add, Nat.zero_add] at hx770_2 | skip)
                          have HR770_2 := Aside0.mk hi770_2
                          have HC770_2 := Aside0.mk hl770_2
                          clear hi770_2 hl770_2
                          replace p770 := eq_true p770
                          replace q770 := eq_true q770
                          obtain ⟨oki56, ce56, hcl56, hM56, hcc56, _, _, hH56⟩ := Kd.S_elem HO_5.out z62 (t757 : Int) (of_decide_eq_true (by first | (with_reducible assumption) | assumption)) (by have h_ : (t757 : Int) < ((x5_2.length : Int) : Int) := of_decide_eq_true (by first | (with_reducible assumption) | assumption); first | exact h_ | (have e_ := (Kd.S_reads' HO_5.out).1; omega) | simpa using h_)
                          obtain ⟨ve56_2, rfl, ge56_2⟩ := k62_openM hM56
                          have hv56 := hcc56 2 _ rfl
                          have hX56 := HX770_2.out
                          (try simp only [add_plain] at hX56)
                          (try simp only [Nat.add_zero] at hv56)
                          replace hv56 := Option.some.inj (hv56.symm.trans hX56)
                          subst hv56
                          clear hX56 hcc56 hcl56
                          have UU56 := Aside0.mk (show Kd.R (Kd.int .i64) 3 _ w.heap.size oki56 (.slice A770_2 ((rd_T62 y769 t757).f2).length c770_2) ((rd_T62 y769 t757).f2) from ge56_2)
                          have HH56 := Aside0.mk hH56
                          have HN56 := Aside0.mk (Kd.S_reads' HO_5.out).1
                          clear hH56 ge56_2
                          refine start_ (n := 14) (S := fun w' => w'.cell? ⟨gb756, 0, none⟩ = some (.int .i64 ((rd_T80 l1 x19_2).f0)) ∧ w'.cell? ⟨gb756, 1, none⟩ = some (.int .i64 ((rd_T80 l1 x19_2).f1)) ∧ w'.cell? ⟨gb756, 2, none⟩ = some (.int .i64 ((rd_T80 l1 x19_2).f2)) ∧ w'.cell? ⟨go44, (t757).toNat * 3, none⟩ = some (.int .i64 ((rd_T62 y769 t757).f0)) ∧ w'.cell? ⟨go44, (t757).toNat * 3 + 1, none⟩ = some (.int .i64 ((rd_T62 y769 t757).f1)) ∧ w'.cell? ⟨go44, (t757).toNat * 3 + 2, none⟩ = some (.slice A770_2 ((rd_T62 y769 t757).f2).length c770_2)) (ds := [13]) #[false, false, false, false, false, false, false, false, false, false, false, false, false, false] (by kernel_rfl) rfl rfl ⟨(blk_cell BK756.out 0).trans rfl, (blk_cell BK756.out 1).trans rfl, (blk_cell BK756.out 2).trans rfl, hx770_0, hx770_1, hx770_2⟩ (fun hHeld => ?_); refine with_tabW impl_FirstFit.tab12 impl_FirstFit.bits12 (fun HT_ HW_ => ?_)
                          generalize w54.drew = w55 at HO_5 HL768_2 BK752 BK756 HB HH56 HL770_2 HQ53 HR770_2 HX770_2 UU56 hx770_0 hx770_1 hx770_2 hHeld ⊢
                          refine pure_ (i := 0) (N := some 46) (v := ?_) (a' := ?_) #[true, false, false, false, false, false, false, false, false, false, false, false, false, false] rfl rfl (any_of HT_.out (by kernel_rfl)) (fun _ _ _ h => h) (Or.inl ⟨by rfl, ?_⟩) ?_ ?_
                          rotate_left
                          · intro w'
                            go_simp
                            with_reducible rfl
                          rotate_left
                          · simp only [Act.put, List.setIfInBounds_toArray, List.set_cons_zero, List.set_cons_succ, i64_w, i32_w]
                            rfl
                          refine pure_ (i := 1) (N := some 47) (v := ?_) (a' := ?_) #[true, true, false, false, false, false, false, false, false, false, false, false, false, false] rfl rfl (any_of HT_.out (by kernel_rfl)) (fun _ _ _ h => h) (Or.inl ⟨by rfl, ?_⟩) ?_ ?_
                          rotate_left
                          · intro w'
                            go_simp
                            with_reducible rfl
                          rotate_left
                          · simp only [Act.put, List.setIfInBounds_toArray, List.set_cons_zero, List.set_cons_succ, i64_w, i32_w]
                            rfl
                          refine pure_ (i := 2) (N := some 48) (v := ?_) (a' := ?_) #[true, true, true, false, false, false, false, false, false, false, false, false, false, false] rfl rfl (any_of HT_.out (by kernel_rfl)) (fun _ _ _ h => h) (Or.inl ⟨by rfl, ?_⟩) ?_ ?_
                          rotate_left
                          · intro w'
                            go_simp
                            with_reducible rfl
                          rotate_left
                          · simp only [Act.put, List.setIfInBounds_toArray, List.set_cons_zero, List.set_cons_succ, i64_w, i32_w]
                            rfl
                          refine pure_ (i := 3) (N := some 49) (v := ?_) (a' := ?_) #[true, true, true, true, false, false, false, false, false, false, false, false, false, false] rfl rfl (any_of HT_.out (by kernel_rfl)) (fun _ _ _ h => h) (Or.inl ⟨by rfl, ?_⟩) ?_ ?_
                          rotate_left
                          · intro w'
                            go_simp
                            with_reducible rfl
                          rotate_left
                          · simp only [Act.put, List.setIfInBounds_toArray, List.set_cons_zero, List.set_cons_succ, i64_w, i32_w]
                            rfl
                          refine pure_ (i := 4) (N := some 50) (v := ?_) (a' := ?_) #[true, true, true, true, true, false, false, false, false, false, false, false, false, false] rfl rfl (any_of HT_.out (by kernel_rfl)) (fun _ _ _ h => h) (Or.inl ⟨by rfl, ?_⟩) ?_ ?_
                          rotate_left
                          · intro w'
                            go_simp
                            with_reducible rfl
                          rotate_left
                          · simp only [Act.put, List.setIfInBounds_toArray, List.set_cons_zero, List.set_cons_succ, i64_w, i32_w]
                            rfl
                          refine pure_ (i := 5) (N := some 51) (v := ?_) (a' := ?_) #[true, true, true, true, true, true, false, false, false, false, false, false, false, false] rfl rfl (any_of HT_.out (by kernel_rfl)) (fun _ _ _ h => h) (Or.inl ⟨by rfl, ?_⟩) ?_ ?_
                          rotate_left
                          · intro w'
                            go_simp
                            with_reducible rfl
                          rotate_left
                          · simp only [Act.put, List.setIfInBounds_toArray, List.set_cons_zero, List.set_cons_succ, i64_w, i32_w]
                            rfl
                          refine pure_ (i := 7) (N := some 53) (v := ?_) (a' := ?_) #[true, true, true, true, true, true, false, true, false, false, false, false, false, false] rfl rfl (any_of HT_.out (by kernel_rfl)) (fun _ _ _ h => h) (Or.inl ⟨by rfl, ?_⟩) ?_ ?_
                          rotate_left
                          · intro w'
                            go_simp
                            with_reducible rfl
                          rotate_left
                          · simp only [Act.put, List.setIfInBounds_toArray, List.set_cons_zero, List.set_cons_succ, i64_w, i32_w]
                            rfl
                          refine take_ (i := 6) (N := some 52) (v := ?_) (a' := ?_) #[true, true, true, true, true, true, true, true, false, false, false, false, false, false] rfl rfl (take_ofW HT_.out HW_.out (by kernel_rfl)) (fun _ _ _ h => h) (Or.inl ⟨by rfl, ?_⟩) hHeld ?_ ?_
                          rotate_left
                          · rintro w' ⟨s0, s1, s2, s3, s4, s5⟩
                            go_simp
                            with_reducible rfl
                          rotate_left
                          · simp only [Act.put, List.setIfInBounds_toArray, List.set_cons_zero, List.set_cons_succ, i64_w, i32_w]
                            rfl
                          refine take_ (i := 8) (N := some 54) (v := ?_) (a' := ?_) #[true, true, true, true, true, true, true, true, true, false, false, false, false, false] rfl rfl (take_ofW HT_.out HW_.out (by kernel_rfl)) (fun _ _ _ h => h) (Or.inl ⟨by rfl, ?_⟩) hHeld ?_ ?_
                          rotate_left
                          · rintro w' ⟨s0, s1, s2, s3, s4, s5⟩
                            go_simp
                            with_reducible rfl
                          rotate_left
                          · simp only [Act.put, List.setIfInBounds_toArray, List.set_cons_zero, List.set_cons_succ, i64_w, i32_w]
                            rfl
                          refine one_ (i := 9) (N := some 55) #[true, true, true, true, true, true, true, true, true, true, false, false, false, false] rfl rfl (one_of HT_.out (by kernel_rfl)) (by decide) (fun K hK => ?_)
                          refine value_ (w1 := ?_) (v := ?_) (by rfl) rfl ?_ ?_
                          rotate_left 2
                          · go_simp
                            constructor
                            · rfl
                            · rfl
                          refine hK.out _ _ ⟨(blk_cell (blk_alloc BK756.out _) 0).trans rfl, (blk_cell (blk_alloc BK756.out _) 1).trans rfl, (blk_cell (blk_alloc BK756.out _) 2).trans rfl, (World.cell?_alloc_lt _ _ _ (World.block_lt_of_cell? _ _ (hHeld.2.2.2.1))).trans (hHeld.2.2.2.1), (World.cell?_alloc_lt _ _ _ (World.block_lt_of_cell? _ _ (hHeld.2.2.2.2.1))).trans (hHeld.2.2.2.2.1), (World.cell?_alloc_lt _ _ _ (World.block_lt_of_cell? _ _ (hHeld.2.2.2.2.2))).trans (hHeld.2.2.2.2.2)⟩ (fun hHeld => ?_)
                          clear hK K
                          refine norm_ (a' := ?_) ?_ ?_
                          rotate_left
                          · show Act.put _ (some 55) _ = _
                            simp only [Act.put, List.setIfInBounds_toArray, List.set_cons_zero, List.set_cons_succ, i64_w, i32_w]
                            rfl
                          refine one_ (i := 10) (N := some 56) #[true, true, true, true, true, true, true, true, true, true, true, false, false, false] rfl rfl (one_of HT_.out (by kernel_rfl)) (by decide) (fun K hK => ?_)
                          refine Kd.R_append_step (Kd.int .i64) (w0 := w) w.heap.size (by rfl) (.tmp 52) (.tmp 55) 22 3 (.int .i64 0) 8 rfl Try.underlying22 info3 rfl (by decide) (by omega) (.slice A770_2 ((rd_T62 y769 t757).f2).length c770_2) ((rd_T62 y769 t757).f2) ((rd_T80 l1 x19_2).f0) [.int .i64 ((rd_T80 l1 x19_2).f0)] (fun k_ => oki56 k_ ∨ ((fun _ => True)) k_ ∧ w55.heap.size ≤ k_) (fun _ => False) rfl rfl ?aP (fun _ hk => hk.elim) ?aF ?aO ?aB ?aS ?aL ?_
                          (case aP => exact rfl)
                          (case aB => exact (by repeat (first | (with_reducible first | exact HB.out | apply below_alloc | apply pw_below_drewN | apply below_drew1 | refine below_set ?_ GE752.out | refine below_set ?_ GE756.out) | exact HB.out)))
                          (case aF => exact (fun k_ hk => .inr ⟨trivial, hk⟩))
                          (case aO => exact (by (with_reducible repeat (first | apply Kd.R_alloc | apply Kd.R_drewN | apply Kd.R_drew)); exact Kd.R_mono UU56.out (fun _ hk => .inl hk)))
                          (case aS => exact (below_size (by repeat (first | (with_reducible first | exact HB.out | apply below_alloc | apply pw_below_drewN | apply below_drew1 | refine below_set ?_ GE752.out | refine below_set ?_ GE756.out) | exact HB.out))))
                          (case aL => have := LMc45.out; omega)
                          intro v772 w57 ho hb hg hat
                          (first | have HS3_ := cell_grown hg (hHeld.2.2.2.1) (by first | (rw [add_block]; exact (fun e_ => ((HL770_2.out.1 _ e_.symm).2) rfl)) | (show some (Addr.add _ _).block ≠ _; rw [add_block]; exact (fun e_ => ((HL770_2.out.1 _ e_.symm).2) rfl)) | exact (fun e_ => ((HL770_2.out.1 _ e_.symm).2) rfl)) | have HS3_ := cell_grown hg (cell_unalloc (hHeld.2.2.2.1) (by first | (rw [add_block]; exact Kd.S_lt HO_5.out _ rfl) | (show (Addr.add _ _).block < _; rw [add_block]; exact Kd.S_lt HO_5.out _ rfl) | exact Kd.S_lt HO_5.out _ rfl)) (by first | (rw [add_block]; exact (fun e_ => ((HL770_2.out.1 _ e_.symm).2) rfl)) | (show some (Addr.add _ _).block ≠ _; rw [add_block]; exact (fun e_ => ((HL770_2.out.1 _ e_.symm).2) rfl)) | exact (fun e_ => ((HL770_2.out.1 _ e_.symm).2) rfl)))
                          (first | have HS4_ := cell_grown hg (hHeld.2.2.2.2.1) (by first | (rw [add_block]; exact (fun e_ => ((HL770_2.out.1 _ e_.symm).2) rfl)) | (show some (Addr.add _ _).block ≠ _; rw [add_block]; exact (fun e_ => ((HL770_2.out.1 _ e_.symm).2) rfl)) | exact (fun e_ => ((HL770_2.out.1 _ e_.symm).2) rfl)) | have HS4_ := cell_grown hg (cell_unalloc (hHeld.2.2.2.2.1) (by first | (rw [add_block]; exact Kd.S_lt HO_5.out _ rfl) | (show (Addr.add _ _).block < _; rw [add_block]; exact Kd.S_lt HO_5.out _ rfl) | exact Kd.S_lt HO_5.out _ rfl)) (by first | (rw [add_block]; exact (fun e_ => ((HL770_2.out.1 _ e_.symm).2) rfl)) | (show some (Addr.add _ _).block ≠ _; rw [add_block]; exact (fun e_ => ((HL770_2.out.1 _ e_.symm).2) rfl)) | exact (fun e_ => ((HL770_2.out.1 _ e_.symm).2) rfl)))
                          (first | have HS5_ := cell_grown hg (hHeld.2.2.2.2.2) (by first | (rw [add_block]; exact (fun e_ => ((HL770_2.out.1 _ e_.symm).2) rfl)) | (show some (Addr.add _ _).block ≠ _; rw [add_block]; exact (fun e_ => ((HL770_2.out.1 _ e_.symm).2) rfl)) | exact (fun e_ => ((HL770_2.out.1 _ e_.symm).2) rfl)) | have HS5_ := cell_grown hg (cell_unalloc (hHeld.2.2.2.2.2) (by first | (rw [add_block]; exact Kd.S_lt HO_5.out _ rfl) | (show (Addr.add _ _).block < _; rw [add_block]; exact Kd.S_lt HO_5.out _ rfl) | exact Kd.S_lt HO_5.out _ rfl)) (by first | (rw [add_block]; exact (fun e_ => ((HL770_2.out.1 _ e_.symm).2) rfl)) | (show some (Addr.add _ _).block ≠ _; rw [add_block]; exact (fun e_ => ((HL770_2.out.1 _ e_.symm).2) rfl)) | exact (fun e_ => ((HL770_2.out.1 _ e_.symm).2) rfl)))
                          rw [← Ny771.out] at ho
                          have n0_ := Aside0.mk (blk_grown (g := gb752) (o := .cells #[.int .i64 a0_0, .int .i64 a0_1] 49 (0, 0)) (by (with_reducible repeat (first | refine blk_drewN ?_ _ | refine blk_drew ?_ | refine blk_alloc ?_ _)); exact BK752.out) hg (Kd.R_ne HL770_2.out BK752.out (by decide)))
                          have n1_ := Aside0.mk (blk_grown (g := gb756) (o := .cells #[.int .i64 ((rd_T80 l1 x19_2).f0), .int .i64 ((rd_T80 l1 x19_2).f1), .int .i64 ((rd_T80 l1 x19_2).f2)] 80 (0, 0)) (by (with_reducible repeat (first | refine blk_drewN ?_ _ | refine blk_drew ?_ | refine blk_alloc ?_ _)); exact BK756.out) hg (Kd.R_ne HL770_2.out BK756.out (by decide)))
                          have n2_ := Aside0.mk (hb)
                          have n3_ := Aside0.mk (Kd.H_grown (Kd.H_widen (by repeat (first | exact HH56.out | refine Kd.H_alloc ?_ _ | refine Kd.H_drewN ?_ _ | refine Kd.H_drew ?_))) hg (fun k_ e_ => .inl (UU56.out.1 k_ e_)))
                          have n4_ := Aside0.mk (ho)
                          clear BK752
                          clear BK756
                          clear HB
                          clear HH56
                          clear HO_5
                          clear UU56
                          clear HL768_2
                          clear HL770_2
                          have BK752 := n0_
                          have BK756 := n1_
                          have HB := n2_
                          have HH56 := n3_
                          have HO773 := n4_
                          clear n0_ n1_ n2_ n3_ n4_
                          clear ho hb hg hat
                          have p46 : 0 ≤ (t757 : Int) := of_decide_eq_true (by first | (with_reducible assumption) | assumption)
                          have q46 : (t757 : Int) < ((x5_2.length : Int) : Int) := of_decide_eq_true (by first | (with_reducible assumption) | assumption)
                          replace p46 := eq_true p46
                          replace q46 := eq_true q46
                          obtain ⟨Ao60, co60, eo60⟩ := Kd.R_slice HO773.out
                          (first | subst eo60 | (injection eo60 with f1_ f2_ f3_; have f4_ := f1_.symm; have f5_ := f3_.symm; clear f1_ f2_ f3_; subst f4_; subst f5_))
                          obtain ⟨_, _, hraw58, _, _, hcc58, _⟩ := Kd.H_raw HH56.out (of_decide_eq_true (by first | (with_reducible assumption) | assumption)) (by have h_ : (t757 : Int) < ((x5_2.length : Int) : Int) := of_decide_eq_true (by first | (with_reducible assumption) | assumption); first | exact h_ | (have e_ := (HN56.out); omega) | simpa using h_)
                          obtain ⟨_, hfr58⟩ := Kd.H_at HH56.out (of_decide_eq_true (by first | (with_reducible assumption) | assumption)) (by have h_ : (t757 : Int) < ((x5_2.length : Int) : Int) := of_decide_eq_true (by first | (with_reducible assumption) | assumption); first | exact h_ | (have e_ := (HN56.out); omega) | simpa using h_)
                          have hx58_0 := hcc58 2 _ rfl
                          have hf58_0 := hfr58 2
                          (try rw [show (k62).sz = 3 from rfl] at hx58_0)
                          (try simp only [Int.toNat_natCast] at hx58_0)
                          (try rw [show (k62).sz = 3 from rfl] at hf58_0)
                          (try simp only [Int.toNat_natCast] at hf58_0)
                          have HP58 := Kd.S_seg0 HH56.out (of_decide_eq_true (by first | (with_reducible assumption) | assumption)) (by have h_ : (t757 : Int) < ((x5_2.length : Int) : Int) := of_decide_eq_true (by first | (with_reducible assumption) | assumption); first | exact h_ | (have e_ := (HN56.out); omega) | simpa using h_) (seg := [.slice Ao60 y771.length co60]) (j := 2) (show 3 ≤ 3 from by decide) (x' := (⟨(rd_T62 y769 t757).f0, (rd_T62 y769 t757).f1, y771⟩ : S62)) (k62_mkM _ _ _ (⟨(rd_T62 y769 t757).f0, (rd_T62 y769 t757).f1, y771⟩ : S62) HO773.out) (fun _ hk => hk)
                          clear hcc58 hfr58
                          have HNB752_go44 := Aside0.mk (show gb752 ≠ go44 from by have h_ := Kd.R_ne hraw58 BK752.out (by decide); intro e_; exact h_ (by rw [e_]; rfl))
                          have HNB756_go44 := Aside0.mk (show gb756 ≠ go44 from by have h_ := Kd.R_ne hraw58 BK756.out (by decide); intro e_; exact h_ (by rw [e_]; rfl))
                          have HS58 := HP58.1
                          rw [← Ny774.out] at HS58
                          have HQ58 := Aside0.mk HS58
                          obtain ⟨_, hgg58⟩ := Kd.R_typed hraw58 go44 rfl
                          have GG58_ := Aside0.mk hgg58
                          clear HP58 HS58 hgg58
                          refine hK.out _ _ ⟨(blk_cell BK756.out 0).trans rfl, (blk_cell BK756.out 1).trans rfl, (blk_cell BK756.out 2).trans rfl, HS3_, HS4_, HS5_⟩ (fun hHeld => ?_)
                          clear hK K
                          refine norm_ (a' := ?_) ?_ ?_
                          rotate_left
                          · show Act.put _ (some 56) _ = _
                            simp only [Act.put, List.setIfInBounds_toArray, List.set_cons_zero, List.set_cons_succ, i64_w, i32_w]
                            rfl
                          refine pure_ (i := 11) (N := some 57) (v := ?_) (a' := ?_) #[true, true, true, true, true, true, true, true, true, true, true, true, false, false] rfl rfl (any_of HT_.out (by kernel_rfl)) (fun _ _ _ h => h) (Or.inl ⟨by rfl, ?_⟩) ?_ ?_
                          rotate_left
                          · intro w'
                            go_simp
                            with_reducible rfl
                          rotate_left
                          · simp only [Act.put, List.setIfInBounds_toArray, List.set_cons_zero, List.set_cons_succ, i64_w, i32_w]
                            rfl
                          refine pure_ (i := 12) (N := some 58) (v := ?_) (a' := ?_) #[true, true, true, true, true, true, true, true, true, true, true, true, true, false] rfl rfl (any_of HT_.out (by kernel_rfl)) (fun _ _ _ h => h) (Or.inl ⟨by rfl, ?_⟩) ?_ ?_
                          rotate_left
                          · intro w'
                            go_simp
                            with_reducible rfl
                          rotate_left
                          · simp only [Act.put, List.setIfInBounds_toArray, List.set_cons_zero, List.set_cons_succ, i64_w, i32_w]
                            rfl
                          refine last_ (i := 13) (N := none) #[true, true, true, true, true, true, true, true, true, true, true, true, true, true] rfl rfl (one_of HT_.out (by kernel_rfl)) (by decide) (fun K hK => ?_)
                          refine skip_ (w1 := ?_) (by rfl) rfl ?_ ?_
                          rotate_left
                          · go_simp
                            rfl
                          refine hK.out _ _ ?_
                          clear hK K
                          refine done_ (done_of HT_.out (by kernel_rfl)) ?_
                          try go_wp2
                          go_roundg k2
                          case measure => have := HJ2.out; have := HK2.out; omega
                          case rel => exact ⟨(y774), (wrap64 (x19_2 + 1)), (by first | rfl | (simp; done) | (simp [*]; done)), H', ⟨by have := HJ2.out; have := HK2.out; omega⟩, ⟨by (with_reducible repeat (first | apply Kd.S_alloc | apply Kd.S_drewN | apply Kd.S_drew)); exact HQ58.out⟩, ⟨by (with_reducible repeat (first | refine blk_drewN ?_ _ | refine blk_drew ?_ | refine blk_alloc ?_ _)); refine blk_far ?_ HNB752_go44.out _; (with_reducible repeat (first | refine blk_drewN ?_ _ | refine blk_drew ?_ | refine blk_alloc ?_ _)); exact BK752.out⟩, ⟨by repeat (first | (with_reducible first | exact HB.out | apply below_alloc | apply pw_below_drewN | apply below_drew1 | refine below_set ?_ GB44.out | refine below_set ?_ GE752.out | refine below_set ?_ GE756.out) | exact HB.out)⟩⟩
                        · rw [if_neg c45] at H
                          exact absurd H (by simp)
                      · rw [if_neg c43] at H
                        exact absurd H (by simp)
                    · rw [if_neg c42] at H
                      exact absurd H (by simp)
                · rw [if_neg c16] at H
                  exact absurd H (by simp)
              · rw [if_neg c15] at H
                exact absurd H (by simp)
            · rw [if_neg c14] at H
              have c14b0 : decide (x19_2 < (l1.length : Int)) = false := decide_eq_false c14
              clear c14
              obtain rfl := Option.some.inj H
              go_wp2
              go_ret
              exact ⟨_, by first | rfl | (simp [errW_none, errW_some] <;> rfl) | (simp [*, errW_none, errW_some] <;> rfl), by (with_reducible repeat (first | apply Kd.S_alloc | apply Kd.S_drewN | apply Kd.S_drew)); exact HO_5.out, by repeat (first | (with_reducible first | exact HB.out | apply below_alloc | apply pw_below_drewN | apply below_drew1 | refine below_set ?_ GE752.out) | exact HB.out)⟩

end Go.Proofs.Ytnldmnlfocigaaa.F

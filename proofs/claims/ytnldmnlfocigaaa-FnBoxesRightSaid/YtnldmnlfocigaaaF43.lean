-- PRINTED by print.py (a twelfth state) out of the translation. Not trusted: Lean checks it.
import Derived.Test.YtnldmnlfocigaaaF
import Derived.Test.YtnldmnlfocigaaaF35
import Derived.Test.YtnldmnlfocigaaaF52
import Derived.Test.YtnldmnlfocigaaaF78
import Derived.Test.YtnldmnlfocigaaaFC76
namespace Go.Proofs.Ytnldmnlfocigaaa.F
open Go.Proofs.Ytnldmnlfocigaaa.Opn
open Go.RowKit Go.Proofs.YtnldmnlfocigaaaW.PrintWords Go.Proofs.YtnldmnlfocigaaaW.PrintLast
set_option linter.unusedVariables false
set_option linter.unusedSimpArgs false

theorem zf43_17 {p : Prop} (h : p := by (with_reducible repeat (first | refine blk_drewN ?_ _ | refine blk_drew ?_ | refine blk_alloc ?_ _)); exact BK699.out) : p := h
theorem zf43_16 {p : Prop} (h : p := by repeat (first | (with_reducible first | exact HB.out | apply below_alloc | apply pw_below_drewN | apply below_drew1) | exact HB.out)) : p := h
theorem zf43_15 {p : Prop} (h : p := by first | rfl | (simp; done) | (simp [*]; done)) : p := h
theorem zf43_14 {p : Prop} (h : p := by (with_reducible repeat (first | apply Kd.R_alloc | apply Kd.R_drewN | apply Kd.R_drew)); exact HO_7.out) : p := h
theorem zf43_13 {p : Prop} (h : p := by rw [hg]; exact Nat.ne_of_gt (blk_lt (g := gb693) (o := .cells #[.int .i64 a0_0, .int .i64 a0_1] 49 (0, 0)) zf43_2)) : p := h
theorem zf43_12 {p : Prop} (h : p := by rw [hg]; exact Nat.ne_of_lt (blk_lt (g := gb693) (o := .cells #[.int .i64 a0_0, .int .i64 a0_1] 49 (0, 0)) zf43_2)) : p := h
theorem zf43_11 {p : Prop} (h : p := by rw [hg]; exact Nat.ne_of_gt (blk_lt (g := gb697) (o := .cells #[.int .i64 ((rd_T62 l2 x24_2).f0), .int .i64 ((rd_T62 l2 x24_2).f1), .slice (some ad698) ((rd_T62 l2 x24_2).f2).length c696_2] 62 (0, 0)) zf43_4)) : p := h
theorem zf43_10 {p : Prop} (h : p := by rw [hg]; exact Nat.ne_of_lt (blk_lt (g := gb697) (o := .cells #[.int .i64 ((rd_T62 l2 x24_2).f0), .int .i64 ((rd_T62 l2 x24_2).f1), .slice (some ad698) ((rd_T62 l2 x24_2).f2).length c696_2] 62 (0, 0)) zf43_4)) : p := h
theorem zf43_9 {p : Prop} (h : p := by first | (with_reducible assumption) | assumption) : p := h
theorem zf43_8 {p : Prop} (h : p := by (with_reducible repeat (first | refine blk_drewN ?_ _ | refine blk_drew ?_ | refine blk_alloc ?_ _)); refine blk_far ?_ NB697_699.out _; (with_reducible repeat (first | refine blk_drewN ?_ _ | refine blk_drew ?_ | refine blk_alloc ?_ _)); exact BK697.out) : p := h
theorem zf43_7 {p : Prop} (h : p := by (with_reducible repeat (first | refine blk_drewN ?_ _ | refine blk_drew ?_ | refine blk_alloc ?_ _)); refine blk_far ?_ NB693_699.out _; (with_reducible repeat (first | refine blk_drewN ?_ _ | refine blk_drew ?_ | refine blk_alloc ?_ _)); exact BK693.out) : p := h
theorem zf43_6 {p : Prop} (h : p := by repeat (first | (with_reducible first | exact HB.out | apply below_alloc | apply pw_below_drewN | apply below_drew1 | refine below_set ?_ GE693.out) | exact HB.out)) : p := h
theorem zf43_5 {p : Prop} (h : p := by (with_reducible repeat (first | apply Kd.R_alloc | apply Kd.R_drewN | apply Kd.R_drew)); exact (Kd.R_mono (Kd.R_far (p := ⟨gb699, 0, none⟩) (Kd.R_mono HO_7.out (fun k_ hk => (⟨hk, hk.2⟩ : _ ∧ k_ ≠ gb699))) (fun _ hk => hk.2) (.int .i64 (rd ((rd_T62 l2 x24_2).f2) x31_3))) (fun _ h_ => h_.1))) : p := h
theorem zf43_4 {p : Prop} (h : p := by (with_reducible repeat (first | refine blk_drewN ?_ _ | refine blk_drew ?_ | refine blk_alloc ?_ _)); exact BK697.out) : p := h
theorem zf43_3 {p : Prop} (h : p := by (with_reducible repeat (first | refine blk_drewN ?_ _ | refine blk_drew ?_ | refine blk_alloc ?_ _)); refine blk_put (cs := #[.int .i64 0]) ?_ 0 _ rfl; (with_reducible repeat (first | refine blk_drewN ?_ _ | refine blk_drew ?_ | refine blk_alloc ?_ _)); exact BK699.out) : p := h
theorem zf43_2 {p : Prop} (h : p := by (with_reducible repeat (first | refine blk_drewN ?_ _ | refine blk_drew ?_ | refine blk_alloc ?_ _)); exact BK693.out) : p := h
theorem zf43_1 {p : Prop} (h : p := by repeat (first | (with_reducible first | exact HB.out | apply below_alloc | apply pw_below_drewN | apply below_drew1 | refine below_set ?_ GE693.out | refine below_set ?_ GE697.out | refine below_set ?_ GE699.out) | exact HB.out)) : p := h
theorem zf43_0 {p : Prop} (h : p := by repeat (first | (with_reducible first | exact HB.out | apply below_alloc | apply pw_below_drewN | apply below_drew1 | refine below_set ?_ GE693.out | refine below_set ?_ GE697.out) | exact HB.out)) : p := h
/-! ### impl_BoxesOk: function 43 -/
mutual
def impl_BoxesOk.j0 : Nat → List (S80) → List (S62) → Bool → Int → Int → Option (Bool)
 | 0, _, _, _, _, _ => none
 | k + 1, x1, x2, x21, x694000, x694001 => if x21 = true then (some false) else (impl_BoxesOk.l0 k x1 ([] : List Int) x2 (x2.length : Int) 0 x694000 x694001)
def impl_BoxesOk.l0 : Nat → List (S80) → List Int → List (S62) → Int → Int → Int → Int → Option (Bool)
 | 0, _, _, _, _, _, _, _ => none
 | k + 1, x1, x7, x22, x23, x24, x694000, x694001 => if x24 < x23 then (if 0 ≤ x24 then (if x24 < (x22.length : Int) then (impl_BoxesOk.l1 k x1 x7 0 x22 x23 x24 ((rd_T62 x22 x24).f2) (((rd_T62 x22 x24).f2).length : Int) 0 x694000 x694001 ((rd_T62 x22 x24).f0) ((rd_T62 x22 x24).f1) ((rd_T62 x22 x24).f2)) else (none)) else (none)) else (some ((x7.length : Int) == (x1.length : Int)))
def impl_BoxesOk.l1 : Nat → List (S80) → List Int → Int → List (S62) → Int → Int → List Int → Int → Int → Int → Int → Int → Int → List Int → Option (Bool)
 | 0, _, _, _, _, _, _, _, _, _, _, _, _, _, _ => none
 | k + 1, x1, x7, x10, x22, x23, x24, x29, x30, x31, x694000, x694001, x698000, x698001, x698002 => if x31 < x30 then (if 0 ≤ x31 then (if x31 < (x29.length : Int) then ((impl_BoxesOk_1__slices_IndexFunc_impl_Piece.f x1 (rd x29 x31)).bind fun t700 => (if t700 < 0 then (some false) else (if 0 ≤ t700 then (if t700 < (x1.length : Int) then (if ((rd_T80 x1 t700).f2) = x698000 then ((slices_Contains_int_int.f k x7 (rd x29 x31)).bind fun t702 => (if t702 = true then (some false) else (if x7.length < 17592186044416 then (impl_BoxesOk.l1 k x1 (x7 ++ [rd x29 x31]) (wrap64 (x10 + ((rd_T80 x1 t700).f1))) x22 x23 x24 x29 x30 (wrap64 (x31 + 1)) x694000 x694001 x698000 x698001 x698002) else (none)))) else (some false)) else (none)) else (none)))) else (none)) else (none)) else (if (x698002.length : Int) = 0 then (some false) else (if (x698002.length : Int) > x694001 then (some false) else (if x10 = x698001 then (if x10 > x694000 then (some false) else (impl_BoxesOk.l0 k x1 x7 x22 x23 (wrap64 (x24 + 1)) x694000 x694001)) else (some false))))
end
def impl_BoxesOk.f (k : Nat) (a0_0 : Int) (a0_1 : Int) (l1 : List (S80)) (l2 : List (S62)) : Option (Bool) := (impl_LimitsOk.f a0_0 a0_1).bind fun t694 => (if t694 = true then ((impl_PiecesOk.f k l1).bind fun t695 => (impl_BoxesOk.j0 k l1 l2 (!t695) a0_0 a0_1)) else (impl_BoxesOk.j0 k l1 l2 true a0_0 a0_1))
theorem impl_BoxesOk.mono_l : ∀ k, (∀ y0 y1 y2 y3 y4, LeO (impl_BoxesOk.j0 k y0 y1 y2 y3 y4) (impl_BoxesOk.j0 (k + 1) y0 y1 y2 y3 y4)) ∧ (∀ y0 y1 y2 y3 y4 y5 y6, LeO (impl_BoxesOk.l0 k y0 y1 y2 y3 y4 y5 y6) (impl_BoxesOk.l0 (k + 1) y0 y1 y2 y3 y4 y5 y6)) ∧ (∀ y0 y1 y2 y3 y4 y5 y6 y7 y8 y9 y10 y11 y12 y13, LeO (impl_BoxesOk.l1 k y0 y1 y2 y3 y4 y5 y6 y7 y8 y9 y10 y11 y12 y13) (impl_BoxesOk.l1 (k + 1) y0 y1 y2 y3 y4 y5 y6 y7 y8 y9 y10 y11 y12 y13))
 | 0 => ⟨fun _ _ _ _ _ r h => by simp [impl_BoxesOk.j0] at h, fun _ _ _ _ _ _ _ r h => by simp [impl_BoxesOk.l0] at h, fun _ _ _ _ _ _ _ _ _ _ _ _ _ _ r h => by simp [impl_BoxesOk.l1] at h⟩
 | k + 1 => by
  obtain ⟨ih0, ih1, ih2⟩ := impl_BoxesOk.mono_l k
  refine ⟨?_, ?_, ?_⟩
  ·
   intro y0 y1 y2 y3 y4
   unfold impl_BoxesOk.j0
   repeat' first
   | (with_reducible exact ih0 _ _ _ _ _)
   | (with_reducible exact ih1 _ _ _ _ _ _ _)
   | (with_reducible exact ih2 _ _ _ _ _ _ _ _ _ _ _ _ _ _)
   | (with_reducible exact impl_PiecesOk.mono _ _)
   | (with_reducible exact slices_Contains_int_int.mono _ _ _)
   | (with_reducible exact LeO.refl _)
   | (with_reducible exact LeO.none _)
   | (with_reducible refine LeO.ite ?_ ?_)
   | (with_reducible refine LeO.bind ?_ (fun _ => ?_))
   | exact ih0 _ _ _ _ _
   | exact ih1 _ _ _ _ _ _ _
   | exact ih2 _ _ _ _ _ _ _ _ _ _ _ _ _ _
   | exact impl_PiecesOk.mono _ _
   | exact slices_Contains_int_int.mono _ _ _
   | exact LeO.none _
   | refine LeO.ite ?_ ?_
   | refine LeO.bind ?_ (fun _ => ?_)
  ·
   intro y0 y1 y2 y3 y4 y5 y6
   unfold impl_BoxesOk.l0
   repeat' first
   | (with_reducible exact ih0 _ _ _ _ _)
   | (with_reducible exact ih1 _ _ _ _ _ _ _)
   | (with_reducible exact ih2 _ _ _ _ _ _ _ _ _ _ _ _ _ _)
   | (with_reducible exact impl_PiecesOk.mono _ _)
   | (with_reducible exact slices_Contains_int_int.mono _ _ _)
   | (with_reducible exact LeO.refl _)
   | (with_reducible exact LeO.none _)
   | (with_reducible refine LeO.ite ?_ ?_)
   | (with_reducible refine LeO.bind ?_ (fun _ => ?_))
   | exact ih0 _ _ _ _ _
   | exact ih1 _ _ _ _ _ _ _
   | exact ih2 _ _ _ _ _ _ _ _ _ _ _ _ _ _
   | exact impl_PiecesOk.mono _ _
   | exact slices_Contains_int_int.mono _ _ _
   | exact LeO.none _
   | refine LeO.ite ?_ ?_
   | refine LeO.bind ?_ (fun _ => ?_)
  ·
   intro y0 y1 y2 y3 y4 y5 y6 y7 y8 y9 y10 y11 y12 y13
   unfold impl_BoxesOk.l1
   repeat' first
   | (with_reducible exact ih0 _ _ _ _ _)
   | (with_reducible exact ih1 _ _ _ _ _ _ _)
   | (with_reducible exact ih2 _ _ _ _ _ _ _ _ _ _ _ _ _ _)
   | (with_reducible exact impl_PiecesOk.mono _ _)
   | (with_reducible exact slices_Contains_int_int.mono _ _ _)
   | (with_reducible exact LeO.refl _)
   | (with_reducible exact LeO.none _)
   | (with_reducible refine LeO.ite ?_ ?_)
   | (with_reducible refine LeO.bind ?_ (fun _ => ?_))
   | exact ih0 _ _ _ _ _
   | exact ih1 _ _ _ _ _ _ _
   | exact ih2 _ _ _ _ _ _ _ _ _ _ _ _ _ _
   | exact impl_PiecesOk.mono _ _
   | exact slices_Contains_int_int.mono _ _ _
   | exact LeO.none _
   | refine LeO.ite ?_ ?_
   | refine LeO.bind ?_ (fun _ => ?_)
theorem impl_BoxesOk.mono : ∀ a0 a1 a2 a3 k, LeO (impl_BoxesOk.f k a0 a1 a2 a3) (impl_BoxesOk.f (k + 1) a0 a1 a2 a3) := by
 intro a0 a1 a2 a3 k
 obtain ⟨ih0, ih1, ih2⟩ := impl_BoxesOk.mono_l k
 unfold impl_BoxesOk.f
 repeat' first
   | (with_reducible exact ih0 _ _ _ _ _)
   | (with_reducible exact ih1 _ _ _ _ _ _ _)
   | (with_reducible exact ih2 _ _ _ _ _ _ _ _ _ _ _ _ _ _)
   | (with_reducible exact impl_PiecesOk.mono _ _)
   | (with_reducible exact slices_Contains_int_int.mono _ _ _)
   | (with_reducible exact LeO.refl _)
   | (with_reducible exact LeO.none _)
   | (with_reducible refine LeO.ite ?_ ?_)
   | (with_reducible refine LeO.bind ?_ (fun _ => ?_))
   | exact ih0 _ _ _ _ _
   | exact ih1 _ _ _ _ _ _ _
   | exact ih2 _ _ _ _ _ _ _ _ _ _ _ _ _ _
   | exact impl_PiecesOk.mono _ _
   | exact slices_Contains_int_int.mono _ _ _
   | exact LeO.none _
   | refine LeO.ite ?_ ?_
   | refine LeO.bind ?_ (fun _ => ?_)
set_option maxHeartbeats 8000000 in
set_option maxRecDepth 100000 in
theorem impl_BoxesOk.calls (k : Nat) (a0_0 : Int) (a0_1 : Int) (A1 : Option Addr) (c1 : Nat) (l1 : List (S80)) (A2 : Option Addr) (c2 : Nat) (l2 : List (S62)) (r : Bool) (w : World) (hr1 : Kd.C k80 w A1 l1.length l1) (hc1 : l1.length ≤ c1) (hr2 : Kd.C k62 w A2 l2.length l2) (hc2 : l2.length ≤ c2) (h : impl_BoxesOk.f k a0_0 a0_1 l1 l2 = some r) :
  Calls Try.prog 43 #[.agg #[.int .i64 a0_0, .int .i64 a0_1], .slice A1 l1.length c1, .slice A2 l2.length c2] w fun e w' => e = .returned (.bool r) ∧ Below w.heap.size w w' := by
 have hu49 := Try.underlying49
 have hu62 := Try.underlying62
 have HR1 := Aside0.mk hr1
 have HC1 := Aside0.mk hc1
 clear hr1 hc1
 have HR2 := Aside0.mk hr2
 have HC2 := Aside0.mk hc2
 clear hr2 hc2
 have HB := Aside0.mk (Below.refl w.heap.size w)
 have H : ((impl_LimitsOk.f a0_0 a0_1).bind fun t694 => (if t694 = true then ((impl_PiecesOk.f k l1).bind fun t695 => (impl_BoxesOk.j0 k l1 l2 (!t695) a0_0 a0_1)) else (impl_BoxesOk.j0 k l1 l2 true a0_0 a0_1))) = some r := h
 clear h
 have HC4 := Aside0.mk H
 clear H
 go_enter Try.func43, Try.ntmps43
 go_upto_region 1 with ((with_reducible refine gate_dst (N := 3) rfl ?_); (try (refine gate_guard (by rfl) ?_; dsimp only)); refine box_event ?hg (N := 3) ?hd (cs := #[.int .i64 a0_0, .int .i64 a0_1]) (t := 49) ?hr ?_; (case hd => rfl); (case hg => rfl); (case hr => first | (go_simp; done) | (go_simp; rfl)); intro gb693 hg w5 hbox hb; have n0_ := Aside0.mk (below_step zf43_16 hb); have n1_ := Aside0.mk (hbox); have n2_ := Aside0.mk ((by rw [hg]; exact (below_size zf43_16) : w.heap.size ≤ gb693)); have n3_ := Aside0.mk ((by rw [hg]; exact (below_size zf43_16) : w.heap.size ≤ gb693)); clear HB; have HB := n0_; have BK693 := n1_; have GW693 := n2_; have GE693 := n3_; clear n0_ n1_ n2_ n3_; clear hb hbox hg)
 (try simp only [Act.put, List.setIfInBounds_toArray, List.set_cons_zero, List.set_cons_succ])
 go_cut [21] (fun v21 wc => ∃ (kq : Nat) (x21_3 : Bool), v21 = .bool x21_3 ∧ Aside0 (impl_BoxesOk.j0 kq l1 l2 x21_3 a0_0 a0_1 = some r) ∧ Aside0 (kq ≤ k) ∧ Aside0 (wc.heap[gb693]? = some (.cells #[.int .i64 a0_0, .int .i64 a0_1] 49 (0, 0))) ∧ Aside0 (Below w.heap.size w wc))
 case first =>
  have H := HC4.out
  clear HC4
  replace H := Option.bind_eq_some_iff.mp H
  obtain ⟨t694, A60, H⟩ := H
  replace H : (if t694 = true then ((impl_PiecesOk.f k l1).bind fun t695 => (impl_BoxesOk.j0 k l1 l2 (!t695) a0_0 a0_1)) else (impl_BoxesOk.j0 k l1 l2 true a0_0 a0_1)) = some r := H
  have A6 := Aside0.mk A60
  clear A60
  by_cases c7 : t694 = true
  ·
   subst c7
   have H1 : ((impl_PiecesOk.f k l1).bind fun t695 => (impl_BoxesOk.j0 k l1 l2 (!t695) a0_0 a0_1)) = some r := by rw [if_pos rfl] at H; exact H
   clear H
   have H := H1
   clear H1
   replace H := Option.bind_eq_some_iff.mp H
   obtain ⟨t695, A80, H⟩ := H
   replace H : (impl_BoxesOk.j0 k l1 l2 (!t695) a0_0 a0_1) = some r := H
   have A8 := Aside0.mk A80
   clear A80
   have H' := Aside0.mk H
   clear H
   have hcz9_0 : w5.cell? ⟨gb693, 0, none⟩ = some (.int .i64 a0_0) := (blk_cell BK693.out 0).trans rfl
   have hcz9_1 : w5.cell? ⟨gb693, 1, none⟩ = some (.int .i64 a0_1) := (blk_cell BK693.out 1).trans rfl
   have hfz9_0 := blk_frozen BK693.out 0
   have hfz9_1 := blk_frozen BK693.out 1
   go_wp2_with (first | (go_at_call 52; (with_reducible refine (impl_LimitsOk.calls a0_0 a0_1 true _ A6.out).mono ?_); rintro e w10 ⟨rfl, hb⟩; have n0_ := Aside0.mk (blk_below (g := gb693) (o := .cells #[.int .i64 a0_0, .int .i64 a0_1] 49 (0, 0)) zf43_2 hb); have n1_ := Aside0.mk (below_step zf43_6 hb); clear BK693; clear HB; have BK693 := n0_; have HB := n1_; clear n0_ n1_; (try clear hb); (try clear hb2); (try clear hk); (try clear hi)) | (go_at_call 35; (with_reducible refine (impl_PiecesOk.calls k _ _ l1 t695 _ ?side1 ?side2 A8.out).mono ?_); (case side1 => repeat (first | exact (Kd.C_below HR1.out HB.out) | (with_reducible refine Kd.C_alloc ?_ _) | (with_reducible refine Kd.C_drewN ?_ _) | (with_reducible refine Kd.C_drew ?_))); (case side2 => exact HC1.out); rintro e w11 ⟨rfl, hb⟩; have n0_ := Aside0.mk (blk_below (g := gb693) (o := .cells #[.int .i64 a0_0, .int .i64 a0_1] 49 (0, 0)) zf43_2 hb); have n1_ := Aside0.mk (below_step zf43_6 hb); clear BK693; clear HB; have BK693 := n0_; have HB := n1_; clear n0_ n1_; (try clear hb); (try clear hb2); (try clear hk); (try clear hi)))
   go_meet
   case rel => exact ⟨_, (!t695), zf43_15, H', ⟨by first | omega | exact Nat.le_refl _⟩, ⟨by (with_reducible repeat (first | refine blk_drewN ?_ _ | refine blk_drew ?_ | refine blk_alloc ?_ _)); exact BK693.out⟩, ⟨by repeat (first | (with_reducible first | exact HB.out | apply below_alloc | apply pw_below_drewN | apply below_drew1 | refine below_set ?_ GE693.out) | exact HB.out)⟩⟩
  ·
   replace c7 := Bool.eq_false_iff.mpr c7
   subst c7
   have H1 : (impl_BoxesOk.j0 k l1 l2 true a0_0 a0_1) = some r := by rw [if_neg (show ¬ (false = true) by decide)] at H; exact H
   clear H
   have H := H1
   clear H1
   have H' := Aside0.mk H
   clear H
   have hcz12_0 : w5.cell? ⟨gb693, 0, none⟩ = some (.int .i64 a0_0) := (blk_cell BK693.out 0).trans rfl
   have hcz12_1 : w5.cell? ⟨gb693, 1, none⟩ = some (.int .i64 a0_1) := (blk_cell BK693.out 1).trans rfl
   have hfz12_0 := blk_frozen BK693.out 0
   have hfz12_1 := blk_frozen BK693.out 1
   go_wp2_with (go_at_call 52; (with_reducible refine (impl_LimitsOk.calls a0_0 a0_1 false _ A6.out).mono ?_); rintro e w13 ⟨rfl, hb⟩; have n0_ := Aside0.mk (blk_below (g := gb693) (o := .cells #[.int .i64 a0_0, .int .i64 a0_1] 49 (0, 0)) zf43_2 hb); have n1_ := Aside0.mk (below_step zf43_6 hb); clear BK693; clear HB; have BK693 := n0_; have HB := n1_; clear n0_ n1_; (try clear hb); (try clear hb2); (try clear hk); (try clear hi))
   go_meet
   case rel => exact ⟨_, (true), zf43_15, H', ⟨by first | omega | exact Nat.le_refl _⟩, ⟨by (with_reducible repeat (first | refine blk_drewN ?_ _ | refine blk_drew ?_ | refine blk_alloc ?_ _)); exact BK693.out⟩, ⟨by repeat (first | (with_reducible first | exact HB.out | apply below_alloc | apply pw_below_drewN | apply below_drew1 | refine below_set ?_ GE693.out) | exact HB.out)⟩⟩
 case rest =>
  clear HC4
  try clear c1
  try clear c2
  try clear p2
  try clear c4
  try clear c7
  try clear hcz12_0
  try clear hcz12_1
  try clear hcz9_0
  try clear hcz9_1
  try clear hfz12_0
  try clear hfz12_1
  try clear hfz9_0
  try clear hfz9_1
  obtain ⟨kq, x21_3, rfl, HA, HJ3, BK693, HB⟩ := hcut
  cases kq with
  | zero => exact absurd HA.out (by simp [impl_BoxesOk.j0])
  | succ kj3 =>
   have H := HA.out
   clear HA
   simp only [impl_BoxesOk.j0] at H
   by_cases c14 : x21_3 = true
   ·
    subst c14
    have H1 : (some false) = some r := by rw [if_pos rfl] at H; exact H
    clear H
    have H := H1
    clear H1
    obtain rfl := Option.some.inj H
    go_wp2
    go_ret
    exact ⟨by first | rfl | (simp [errW_none, errW_some] <;> rfl) | (simp [*, errW_none, errW_some] <;> rfl), by repeat (first | (with_reducible first | exact HB.out | apply below_alloc | apply pw_below_drewN | apply below_drew1 | refine below_set ?_ GE693.out) | exact HB.out)⟩
   ·
    replace c14 := Bool.eq_false_iff.mpr c14
    subst c14
    have H1 : (impl_BoxesOk.l0 kj3 l1 ([] : List Int) l2 (l2.length : Int) 0 a0_0 a0_1) = some r := by rw [if_neg (show ¬ (false = true) by decide)] at H; exact H
    clear H
    have H := H1
    clear H1
    have H' := Aside0.mk H
    clear H
    go_wp2
    go_loopg [7, 24] kj3 (fun kq v7 v24 w' => ∃ (x7_2 : List Int) (x24_2 : Int), v24 = .int .i64 x24_2 ∧ Aside0 (impl_BoxesOk.l0 kq l1 x7_2 l2 (l2.length : Int) x24_2 a0_0 a0_1 = some r) ∧ Aside0 (kq ≤ kj3) ∧ Aside0 (Kd.R (Kd.int .i64) 3 w' w.heap.size (fun _ => True) v7 x7_2) ∧ Aside0 (w'.heap[gb693]? = some (.cells #[.int .i64 a0_0, .int .i64 a0_1] 49 (0, 0))) ∧ Aside0 (Below w.heap.size w w'))
    case atStart => exact ⟨(([] : List Int)), (0), zf43_15, H', ⟨Nat.le_refl _⟩, ⟨by first | exact Kd.R_nil _ _ _ _ _ | exact Kd.N_nil _ _ _ _ _ | exact Kd.V_nil _ _ _ _ _ | exact Kd.Q_nil _ _ _ _ _ | exact Kd.S_nil _ _ _ _ _⟩, ⟨by (with_reducible repeat (first | refine blk_drewN ?_ _ | refine blk_drew ?_ | refine blk_alloc ?_ _)); exact BK693.out⟩, ⟨by repeat (first | (with_reducible first | exact HB.out | apply below_alloc | apply pw_below_drewN | apply below_drew1 | refine below_set ?_ GE693.out) | exact HB.out)⟩⟩
    case round =>
     clear H'
     try clear c1
     try clear c2
     try clear p2
     try clear c4
     try clear c7
     try clear c14
     try clear hcz12_0
     try clear hcz12_1
     try clear hcz9_0
     try clear hcz9_1
     try clear hfz12_0
     try clear hfz12_1
     try clear hfz9_0
     try clear hfz9_1
     try clear p2
     obtain ⟨x7_2, x24_2, rfl, HA, HK2, HO_7, BK693, HB⟩ := hrel
     cases gk with
     | zero => exact absurd HA.out (by simp [impl_BoxesOk.l0])
     | succ k2 =>
      have H := HA.out
      clear HA
      simp only [impl_BoxesOk.l0] at H
      by_cases c15 : x24_2 < (l2.length : Int)
      ·
       rw [if_pos c15] at H
       have c15b0 : decide (x24_2 < (l2.length : Int)) = true := decide_eq_true c15
       clear c15
       by_cases c16 : 0 ≤ x24_2
       ·
        rw [if_pos c16] at H
        have c16b0 : decide (0 ≤ x24_2) = true := decide_eq_true c16
        clear c16
        by_cases c17 : x24_2 < (l2.length : Int)
        ·
         rw [if_pos c17] at H
         have c17b0 : decide (x24_2 < (l2.length : Int)) = true := decide_eq_true c17
         clear c17
         have H' := Aside0.mk H
         clear H
         have p696 : 0 ≤ (x24_2 : Int) := of_decide_eq_true zf43_9
         have q696 : x24_2 < (l2.length : Int) := of_decide_eq_true zf43_9
         obtain ⟨ad696, A696_2, c696_2, e696, hx696_0, hx696_1, hx696_2, hl696_2, hi696_2⟩ := at_T62 HR2.out x24_2 p696 q696
         cases e696
         replace hx696_0 := (HB.out.cell (World.block_lt_of_cell? w _ hx696_0)).trans hx696_0
         replace hx696_1 := (HB.out.cell (World.block_lt_of_cell? w _ hx696_1)).trans hx696_1
         replace hx696_2 := (HB.out.cell (World.block_lt_of_cell? w _ hx696_2)).trans hx696_2
         have HR696_2 := Aside0.mk hi696_2
         have HC696_2 := Aside0.mk hl696_2
         clear hi696_2 hl696_2
         replace p696 := eq_true p696
         replace q696 := eq_true q696
         go_wp2_with ((with_reducible refine gate_dst (N := 9) rfl ?_); (try (refine gate_guard (by rfl) ?_; dsimp only)); refine box_event ?hg (N := 9) ?hd (cs := #[.int .i64 0, .int .i64 0, .slice none 0 0]) (t := 62) ?hr ?_; (case hd => rfl); (case hg => rfl); (case hr => first | (go_simp; done) | (go_simp; rfl)); intro gb697 hg w18 hbox hb; have n0_ := Aside0.mk (Kd.R_below zf43_14 hb); have n1_ := Aside0.mk (blk_below (g := gb693) (o := .cells #[.int .i64 a0_0, .int .i64 a0_1] 49 (0, 0)) zf43_2 hb); have n2_ := Aside0.mk (below_step zf43_6 hb); have n3_ := Aside0.mk (hbox); have n4_ := Aside0.mk ((by rw [hg]; exact (below_size zf43_6) : w.heap.size ≤ gb697)); have n5_ := Aside0.mk ((by rw [hg]; exact (below_size zf43_6) : w.heap.size ≤ gb697)); have n6_ := Aside0.mk ((zf43_12 : gb693 ≠ gb697)); have n7_ := Aside0.mk ((zf43_13 : gb697 ≠ gb693)); clear HO_7; clear BK693; clear HB; have HO_7 := n0_; have BK693 := n1_; have HB := n2_; have BK697 := n3_; have GW697 := n4_; have GE697 := n5_; have NB693_697 := n6_; have NB697_693 := n7_; clear n0_ n1_ n2_ n3_ n4_ n5_ n6_ n7_; clear hb hbox hg; have hnb19 := NB697_693.out; have hnc19 := NB693_697.out; have hcz20_0 : w18.cell? ⟨gb697, 0, none⟩ = some (.int .i64 0) := (blk_cell BK697.out 0).trans rfl; have hcz20_1 : w18.cell? ⟨gb697, 1, none⟩ = some (.int .i64 0) := (blk_cell BK697.out 1).trans rfl; have hcz20_2 : w18.cell? ⟨gb697, 2, none⟩ = some (.slice none 0 0) := (blk_cell BK697.out 2).trans rfl; have hfz20_0 := blk_frozen BK697.out 0; have hfz20_1 := blk_frozen BK697.out 1; have hfz20_2 := blk_frozen BK697.out 2)
         (try simp only [Act.put, List.setIfInBounds_toArray, List.set_cons_zero, List.set_cons_succ])
         go_loopg [7, 10, 31] k2 (fun kq v7 v10 v31 w' => ∃ (x7_3 : List Int) (x10_3 : Int) (x31_3 : Int), v10 = .int .i64 x10_3 ∧ v31 = .int .i64 x31_3 ∧ Aside0 (impl_BoxesOk.l1 kq l1 x7_3 x10_3 l2 (l2.length : Int) x24_2 ((rd_T62 l2 x24_2).f2) (((rd_T62 l2 x24_2).f2).length : Int) x31_3 a0_0 a0_1 ((rd_T62 l2 x24_2).f0) ((rd_T62 l2 x24_2).f1) ((rd_T62 l2 x24_2).f2) = some r) ∧ Aside0 (kq ≤ k2) ∧ Aside0 (Kd.R (Kd.int .i64) 3 w' w.heap.size (fun _ => True) v7 x7_3) ∧ Aside0 (w'.heap[gb693]? = some (.cells #[.int .i64 a0_0, .int .i64 a0_1] 49 (0, 0))) ∧ Aside0 (w'.heap[gb697]? = some (.cells #[.int .i64 ((rd_T62 l2 x24_2).f0), .int .i64 ((rd_T62 l2 x24_2).f1), (.slice A696_2 ((rd_T62 l2 x24_2).f2).length c696_2)] 62 (0, 0))) ∧ Aside0 (Below w.heap.size w w'))
         case atStart => exact ⟨(x7_2), (0), (0), zf43_15, zf43_15, H', ⟨Nat.le_refl _⟩, ⟨by (with_reducible repeat (first | apply Kd.R_alloc | apply Kd.R_drewN | apply Kd.R_drew)); exact Kd.R_mono (Kd.R_far (p := ⟨gb697, 2, none⟩) (Kd.R_far (p := ⟨gb697, 1, none⟩) (Kd.R_far (p := ⟨gb697, 0, none⟩) (Kd.R_types HO_7.out BK697.out (by decide)) (fun _ hk => hk.2) (.int .i64 ((rd_T62 l2 x24_2).f0))) (fun _ hk => hk.2) (.int .i64 ((rd_T62 l2 x24_2).f1))) (fun _ hk => hk.2) (.slice A696_2 ((rd_T62 l2 x24_2).f2).length c696_2)) (fun _ hk => trivial)⟩, ⟨by (with_reducible repeat (first | refine blk_drewN ?_ _ | refine blk_drew ?_ | refine blk_alloc ?_ _)); refine blk_far ?_ NB693_697.out _; (with_reducible repeat (first | refine blk_drewN ?_ _ | refine blk_drew ?_ | refine blk_alloc ?_ _)); refine blk_far ?_ NB693_697.out _; (with_reducible repeat (first | refine blk_drewN ?_ _ | refine blk_drew ?_ | refine blk_alloc ?_ _)); refine blk_far ?_ NB693_697.out _; (with_reducible repeat (first | refine blk_drewN ?_ _ | refine blk_drew ?_ | refine blk_alloc ?_ _)); exact BK693.out⟩, ⟨by (with_reducible repeat (first | refine blk_drewN ?_ _ | refine blk_drew ?_ | refine blk_alloc ?_ _)); refine blk_put (cs := #[.int .i64 ((rd_T62 l2 x24_2).f0), .int .i64 ((rd_T62 l2 x24_2).f1), .slice none 0 0]) ?_ 2 _ rfl; (with_reducible repeat (first | refine blk_drewN ?_ _ | refine blk_drew ?_ | refine blk_alloc ?_ _)); refine blk_put (cs := #[.int .i64 ((rd_T62 l2 x24_2).f0), .int .i64 0, .slice none 0 0]) ?_ 1 _ rfl; (with_reducible repeat (first | refine blk_drewN ?_ _ | refine blk_drew ?_ | refine blk_alloc ?_ _)); refine blk_put (cs := #[.int .i64 0, .int .i64 0, .slice none 0 0]) ?_ 0 _ rfl; (with_reducible repeat (first | refine blk_drewN ?_ _ | refine blk_drew ?_ | refine blk_alloc ?_ _)); exact BK697.out⟩, ⟨by repeat (first | (with_reducible first | exact HB.out | apply below_alloc | apply pw_below_drewN | apply below_drew1 | refine below_set ?_ GE693.out | refine below_set ?_ GE697.out) | exact HB.out)⟩⟩
         case round =>
          clear H'
          try clear c1
          try clear c2
          try clear p2
          try clear c4
          try clear c6
          try clear p6
          try clear q6
          try clear hx6
          try clear c7
          try clear c14
          try clear c15
          try clear c15b0
          try clear c16
          try clear c16b0
          try clear c17
          try clear c17b0
          try clear c19
          try clear hcz12_0
          try clear hcz12_1
          try clear hcz20_0
          try clear hcz20_1
          try clear hcz20_2
          try clear hcz9_0
          try clear hcz9_1
          try clear hfz12_0
          try clear hfz12_1
          try clear hfz20_0
          try clear hfz20_1
          try clear hfz20_2
          try clear hfz9_0
          try clear hfz9_1
          try clear hx696_0
          try clear hx696_1
          try clear hx696_2
          try clear p2
          try clear p696
          try clear q696
          obtain ⟨x7_3, x10_3, x31_3, rfl, rfl, HA, HK3, HO_7, BK693, BK697, HB⟩ := hrel
          cases gk with
          | zero => exact absurd HA.out (by simp [impl_BoxesOk.l1])
          | succ k3 =>
           have H := HA.out
           clear HA
           simp only [impl_BoxesOk.l1] at H
           by_cases c21 : x31_3 < (((rd_T62 l2 x24_2).f2).length : Int)
           ·
            rw [if_pos c21] at H
            have c21b0 : decide (x31_3 < (((rd_T62 l2 x24_2).f2).length : Int)) = true := decide_eq_true c21
            clear c21
            by_cases c22 : 0 ≤ x31_3
            ·
             rw [if_pos c22] at H
             have c22b0 : decide (0 ≤ x31_3) = true := decide_eq_true c22
             clear c22
             by_cases c23 : x31_3 < (((rd_T62 l2 x24_2).f2).length : Int)
             ·
              rw [if_pos c23] at H
              have c23b0 : decide (x31_3 < (((rd_T62 l2 x24_2).f2).length : Int)) = true := decide_eq_true c23
              clear c23
              replace H := Option.bind_eq_some_iff.mp H
              obtain ⟨t700, A240, H⟩ := H
              replace H : (if t700 < 0 then (some false) else (if 0 ≤ t700 then (if t700 < (l1.length : Int) then (if ((rd_T80 l1 t700).f2) = ((rd_T62 l2 x24_2).f0) then ((slices_Contains_int_int.f k3 x7_3 (rd ((rd_T62 l2 x24_2).f2) x31_3)).bind fun t702 => (if t702 = true then (some false) else (if x7_3.length < 17592186044416 then (impl_BoxesOk.l1 k3 l1 (x7_3 ++ [rd ((rd_T62 l2 x24_2).f2) x31_3]) (wrap64 (x10_3 + ((rd_T80 l1 t700).f1))) l2 (l2.length : Int) x24_2 ((rd_T62 l2 x24_2).f2) (((rd_T62 l2 x24_2).f2).length : Int) (wrap64 (x31_3 + 1)) a0_0 a0_1 ((rd_T62 l2 x24_2).f0) ((rd_T62 l2 x24_2).f1) ((rd_T62 l2 x24_2).f2)) else (none)))) else (some false)) else (none)) else (none))) = some r := H
              have A24 := Aside0.mk A240
              clear A240
              by_cases c25 : t700 < 0
              ·
               rw [if_pos c25] at H
               have c25b0 : decide (t700 < 0) = true := decide_eq_true c25
               clear c25
               obtain rfl := Option.some.inj H
               have p698 : 0 ≤ (x31_3 : Int) := of_decide_eq_true zf43_9
               have q698 : x31_3 < (((rd_T62 l2 x24_2).f2).length : Int) := of_decide_eq_true zf43_9
               obtain ⟨ad698, e698, hx698_0⟩ := Kd.at_int HR696_2.out x31_3 p698 q698
               cases e698
               replace hx698_0 := (HB.out.cell (World.block_lt_of_cell? w _ hx698_0)).trans hx698_0
               replace p698 := eq_true p698
               replace q698 := eq_true q698
               go_wp2_with (first | ((with_reducible refine gate_dst (N := 12) rfl ?_); (try (refine gate_guard (by rfl) ?_; dsimp only)); refine box_event ?hg (N := 12) ?hd (cs := #[.int .i64 0]) (t := 3) ?hr ?_; (case hd => rfl); (case hg => rfl); (case hr => first | (go_simp; done) | (go_simp; rfl)); intro gb699 hg w26 hbox hb; have n0_ := Aside0.mk (Kd.R_below (Kd.R_elderB zf43_14 gb699 (Nat.le_of_eq hg.symm)) hb); have n1_ := Aside0.mk (blk_below (g := gb693) (o := .cells #[.int .i64 a0_0, .int .i64 a0_1] 49 (0, 0)) zf43_2 hb); have n2_ := Aside0.mk (blk_below (g := gb697) (o := .cells #[.int .i64 ((rd_T62 l2 x24_2).f0), .int .i64 ((rd_T62 l2 x24_2).f1), .slice (some ad698) ((rd_T62 l2 x24_2).f2).length c696_2] 62 (0, 0)) zf43_4 hb); have n3_ := Aside0.mk (below_step zf43_0 hb); have n4_ := Aside0.mk (hbox); have n5_ := Aside0.mk ((by rw [hg]; exact (below_size zf43_0) : w.heap.size ≤ gb699)); have n6_ := Aside0.mk ((by rw [hg]; exact (below_size zf43_0) : w.heap.size ≤ gb699)); have n7_ := Aside0.mk ((zf43_12 : gb693 ≠ gb699)); have n8_ := Aside0.mk ((zf43_13 : gb699 ≠ gb693)); have n9_ := Aside0.mk ((zf43_10 : gb697 ≠ gb699)); have n10_ := Aside0.mk ((zf43_11 : gb699 ≠ gb697)); clear HO_7; clear BK693; clear BK697; clear HB; have HO_7 := n0_; have BK693 := n1_; have BK697 := n2_; have HB := n3_; have BK699 := n4_; have GW699 := n5_; have GE699 := n6_; have NB693_699 := n7_; have NB699_693 := n8_; have NB697_699 := n9_; have NB699_697 := n10_; clear n0_ n1_ n2_ n3_ n4_ n5_ n6_ n7_ n8_ n9_ n10_; clear hb hbox hg; have hnb27 := NB699_693.out; have hnc27 := NB693_699.out; have hnb28 := NB699_697.out; have hnc28 := NB697_699.out; have hcz29_0 : w26.cell? ⟨gb699, 0, none⟩ = some (.int .i64 0) := (blk_cell BK699.out 0).trans rfl; have hfz29_0 := blk_frozen BK699.out 0) | (go_at_call 76; (with_reducible refine (impl_BoxesOk_1__slices_IndexFunc_impl_Piece.calls _ _ l1 (rd ((rd_T62 l2 x24_2).f2) x31_3) gb699 t700 _ ?side1 ?side2 ?side3 A24.out).mono ?_); (case side1 => exact Kd.C_below HR1.out zf43_1); (case side2 => exact HC1.out); (case side3 => exact zf43_3); rintro e w30 ⟨rfl, hb⟩; have n0_ := Aside0.mk (Kd.R_below zf43_5 hb); have n1_ := Aside0.mk (blk_below (g := gb693) (o := .cells #[.int .i64 a0_0, .int .i64 a0_1] 49 (0, 0)) zf43_7 hb); have n2_ := Aside0.mk (blk_below (g := gb697) (o := .cells #[.int .i64 ((rd_T62 l2 x24_2).f0), .int .i64 ((rd_T62 l2 x24_2).f1), .slice (some ad698) ((rd_T62 l2 x24_2).f2).length c696_2] 62 (0, 0)) zf43_8 hb); have n3_ := Aside0.mk (blk_below (g := gb699) (o := .cells #[.int .i64 (rd ((rd_T62 l2 x24_2).f2) x31_3)] 3 (0, 0)) zf43_3 hb); have n4_ := Aside0.mk (below_step zf43_1 hb); clear HO_7; clear BK693; clear BK697; clear BK699; clear HB; have HO_7 := n0_; have BK693 := n1_; have BK697 := n2_; have BK699 := n3_; have HB := n4_; clear n0_ n1_ n2_ n3_ n4_; (try clear hb); (try clear hb2); (try clear hk); (try clear hi)))
               repeat (go_quiet (fail); try go_wp2_with fail)
               go_ret
               exact ⟨by first | rfl | (simp [errW_none, errW_some] <;> rfl) | (simp [*, errW_none, errW_some] <;> rfl), by repeat (first | (with_reducible first | exact HB.out | apply below_alloc | apply pw_below_drewN | apply below_drew1 | refine below_set ?_ GE693.out | refine below_set ?_ GE697.out | refine below_set ?_ GE699.out) | exact HB.out)⟩
              ·
               rw [if_neg c25] at H
               have c25b0 : decide (t700 < 0) = false := decide_eq_false c25
               clear c25
               by_cases c31 : 0 ≤ t700
               ·
                rw [if_pos c31] at H
                have c31b0 : decide (0 ≤ t700) = true := decide_eq_true c31
                clear c31
                by_cases c32 : t700 < (l1.length : Int)
                ·
                 rw [if_pos c32] at H
                 have c32b0 : decide (t700 < (l1.length : Int)) = true := decide_eq_true c32
                 clear c32
                 by_cases c33 : ((rd_T80 l1 t700).f2) = ((rd_T62 l2 x24_2).f0)
                 ·
                  rw [if_pos c33] at H
                  have c33b0 : (((rd_T80 l1 t700).f2) == ((rd_T62 l2 x24_2).f0)) = true := beq_iff_eq.mpr c33
                  have c33b1 : (((rd_T80 l1 t700).f2) != ((rd_T62 l2 x24_2).f0)) = false := bne_eq_false_iff_eq.mpr c33
                  clear c33
                  replace H := Option.bind_eq_some_iff.mp H
                  obtain ⟨t702, A340, H⟩ := H
                  replace H : (if t702 = true then (some false) else (if x7_3.length < 17592186044416 then (impl_BoxesOk.l1 k3 l1 (x7_3 ++ [rd ((rd_T62 l2 x24_2).f2) x31_3]) (wrap64 (x10_3 + ((rd_T80 l1 t700).f1))) l2 (l2.length : Int) x24_2 ((rd_T62 l2 x24_2).f2) (((rd_T62 l2 x24_2).f2).length : Int) (wrap64 (x31_3 + 1)) a0_0 a0_1 ((rd_T62 l2 x24_2).f0) ((rd_T62 l2 x24_2).f1) ((rd_T62 l2 x24_2).f2)) else (none))) = some r := H
                  have A34 := Aside0.mk A340
                  clear A340
                  by_cases c35 : t702 = true
                  ·
                   subst c35
                   have H1 : (some false) = some r := by rw [if_pos rfl] at H; exact H
                   clear H
                   have H := H1
                   clear H1
                   obtain rfl := Option.some.inj H
                   have p698 : 0 ≤ (x31_3 : Int) := of_decide_eq_true zf43_9
                   have q698 : x31_3 < (((rd_T62 l2 x24_2).f2).length : Int) := of_decide_eq_true zf43_9
                   obtain ⟨ad698, e698, hx698_0⟩ := Kd.at_int HR696_2.out x31_3 p698 q698
                   cases e698
                   replace hx698_0 := (HB.out.cell (World.block_lt_of_cell? w _ hx698_0)).trans hx698_0
                   replace p698 := eq_true p698
                   replace q698 := eq_true q698
                   go_wp2_with (first | ((with_reducible refine gate_dst (N := 12) rfl ?_); (try (refine gate_guard (by rfl) ?_; dsimp only)); refine box_event ?hg (N := 12) ?hd (cs := #[.int .i64 0]) (t := 3) ?hr ?_; (case hd => rfl); (case hg => rfl); (case hr => first | (go_simp; done) | (go_simp; rfl)); intro gb699 hg w36 hbox hb; have n0_ := Aside0.mk (Kd.R_below (Kd.R_elderB zf43_14 gb699 (Nat.le_of_eq hg.symm)) hb); have n1_ := Aside0.mk (blk_below (g := gb693) (o := .cells #[.int .i64 a0_0, .int .i64 a0_1] 49 (0, 0)) zf43_2 hb); have n2_ := Aside0.mk (blk_below (g := gb697) (o := .cells #[.int .i64 ((rd_T62 l2 x24_2).f0), .int .i64 ((rd_T62 l2 x24_2).f1), .slice (some ad698) ((rd_T62 l2 x24_2).f2).length c696_2] 62 (0, 0)) zf43_4 hb); have n3_ := Aside0.mk (below_step zf43_0 hb); have n4_ := Aside0.mk (hbox); have n5_ := Aside0.mk ((by rw [hg]; exact (below_size zf43_0) : w.heap.size ≤ gb699)); have n6_ := Aside0.mk ((by rw [hg]; exact (below_size zf43_0) : w.heap.size ≤ gb699)); have n7_ := Aside0.mk ((zf43_12 : gb693 ≠ gb699)); have n8_ := Aside0.mk ((zf43_13 : gb699 ≠ gb693)); have n9_ := Aside0.mk ((zf43_10 : gb697 ≠ gb699)); have n10_ := Aside0.mk ((zf43_11 : gb699 ≠ gb697)); clear HO_7; clear BK693; clear BK697; clear HB; have HO_7 := n0_; have BK693 := n1_; have BK697 := n2_; have HB := n3_; have BK699 := n4_; have GW699 := n5_; have GE699 := n6_; have NB693_699 := n7_; have NB699_693 := n8_; have NB697_699 := n9_; have NB699_697 := n10_; clear n0_ n1_ n2_ n3_ n4_ n5_ n6_ n7_ n8_ n9_ n10_; clear hb hbox hg; have hnb37 := NB699_693.out; have hnc37 := NB693_699.out; have hnb38 := NB699_697.out; have hnc38 := NB697_699.out; have hcz39_0 : w36.cell? ⟨gb699, 0, none⟩ = some (.int .i64 0) := (blk_cell BK699.out 0).trans rfl; have hfz39_0 := blk_frozen BK699.out 0) | (go_at_call 76; (with_reducible refine (impl_BoxesOk_1__slices_IndexFunc_impl_Piece.calls _ _ l1 (rd ((rd_T62 l2 x24_2).f2) x31_3) gb699 t700 _ ?side1 ?side2 ?side3 A24.out).mono ?_); (case side1 => exact Kd.C_below HR1.out zf43_1); (case side2 => exact HC1.out); (case side3 => exact zf43_3); rintro e w40 ⟨rfl, hb⟩; have n0_ := Aside0.mk (Kd.R_below zf43_5 hb); have n1_ := Aside0.mk (blk_below (g := gb693) (o := .cells #[.int .i64 a0_0, .int .i64 a0_1] 49 (0, 0)) zf43_7 hb); have n2_ := Aside0.mk (blk_below (g := gb697) (o := .cells #[.int .i64 ((rd_T62 l2 x24_2).f0), .int .i64 ((rd_T62 l2 x24_2).f1), .slice (some ad698) ((rd_T62 l2 x24_2).f2).length c696_2] 62 (0, 0)) zf43_8 hb); have n3_ := Aside0.mk (blk_below (g := gb699) (o := .cells #[.int .i64 (rd ((rd_T62 l2 x24_2).f2) x31_3)] 3 (0, 0)) zf43_3 hb); have n4_ := Aside0.mk (below_step zf43_1 hb); clear HO_7; clear BK693; clear BK697; clear BK699; clear HB; have HO_7 := n0_; have BK693 := n1_; have BK697 := n2_; have BK699 := n3_; have HB := n4_; clear n0_ n1_ n2_ n3_ n4_; (try clear hb); (try clear hb2); (try clear hk); (try clear hi); have p701 : 0 ≤ (t700 : Int) := of_decide_eq_true zf43_9; have q701 : t700 < (l1.length : Int) := of_decide_eq_true zf43_9; obtain ⟨ad701, e701, hx701_0, hx701_1, hx701_2⟩ := at_T80 HR1.out t700 p701 q701; cases e701; replace hx701_0 := (HB.out.cell (World.block_lt_of_cell? w _ hx701_0)).trans hx701_0; replace hx701_1 := (HB.out.cell (World.block_lt_of_cell? w _ hx701_1)).trans hx701_1; replace hx701_2 := (HB.out.cell (World.block_lt_of_cell? w _ hx701_2)).trans hx701_2; replace p701 := eq_true p701; replace q701 := eq_true q701; have hnb41 := NB697_693.out; have hnc41 := NB693_697.out; have hcz42_0 : w40.cell? ⟨gb697, 0, none⟩ = some (.int .i64 ((rd_T62 l2 x24_2).f0)) := (blk_cell BK697.out 0).trans rfl; have hcz42_1 : w40.cell? ⟨gb697, 1, none⟩ = some (.int .i64 ((rd_T62 l2 x24_2).f1)) := (blk_cell BK697.out 1).trans rfl; have hcz42_2 : w40.cell? ⟨gb697, 2, none⟩ = some (.slice (some ad698) ((rd_T62 l2 x24_2).f2).length c696_2) := (blk_cell BK697.out 2).trans rfl; have hfz42_0 := blk_frozen BK697.out 0; have hfz42_1 := blk_frozen BK697.out 1; have hfz42_2 := blk_frozen BK697.out 2; have hcz43_0 : w40.cell? ⟨gb699, 0, none⟩ = some (.int .i64 (rd ((rd_T62 l2 x24_2).f2) x31_3)) := (blk_cell BK699.out 0).trans rfl; have hfz43_0 := blk_frozen BK699.out 0; obtain ⟨Ao44, co44, eo44⟩ := Kd.R_slice HO_7.out; subst eo44))
                   repeat (go_quiet ((go_at_call 78; (with_reducible refine (slices_Contains_int_int.calls k3 _ _ x7_3 (rd ((rd_T62 l2 x24_2).f2) x31_3) true _ ?side1 ?side2 A34.out).mono ?_); (case side1 => repeat (first | exact (Kd.R_reads' HO_7.out).2.2 | (with_reducible refine Kd.C_alloc ?_ _) | (with_reducible refine Kd.C_drewN ?_ _) | (with_reducible refine Kd.C_drew ?_))); (case side2 => exact (Kd.R_reads' HO_7.out).2.1); rintro e w' ⟨rfl, ⟨nd, rfl⟩⟩; (try first | exact ⟨rfl, _, World.drewN_drewN _ _ _⟩ | exact ⟨rfl, _, Eq.trans (World.drewN_drewN _ _ _) (congrArg (World.drewN _) (Nat.add_assoc _ _ _))⟩))); try go_wp2_with fail)
                   go_ret
                   exact ⟨by first | rfl | (simp [errW_none, errW_some] <;> rfl) | (simp [*, errW_none, errW_some] <;> rfl), by repeat (first | (with_reducible first | exact HB.out | apply below_alloc | apply pw_below_drewN | apply below_drew1 | refine below_set ?_ GE693.out | refine below_set ?_ GE697.out | refine below_set ?_ GE699.out) | exact HB.out)⟩
                  ·
                   replace c35 := Bool.eq_false_iff.mpr c35
                   subst c35
                   have H1 : (if x7_3.length < 17592186044416 then (impl_BoxesOk.l1 k3 l1 (x7_3 ++ [rd ((rd_T62 l2 x24_2).f2) x31_3]) (wrap64 (x10_3 + ((rd_T80 l1 t700).f1))) l2 (l2.length : Int) x24_2 ((rd_T62 l2 x24_2).f2) (((rd_T62 l2 x24_2).f2).length : Int) (wrap64 (x31_3 + 1)) a0_0 a0_1 ((rd_T62 l2 x24_2).f0) ((rd_T62 l2 x24_2).f1) ((rd_T62 l2 x24_2).f2)) else (none)) = some r := by rw [if_neg (show ¬ (false = true) by decide)] at H; exact H
                   clear H
                   have H := H1
                   clear H1
                   by_cases c45 : x7_3.length < 17592186044416
                   ·
                    rw [if_pos c45] at H
                    have LMc45 := Aside0.mk c45
                    clear c45
                    obtain ⟨y704, hy704⟩ : ∃ y_ : List Int, y_ = (x7_3 ++ [rd ((rd_T62 l2 x24_2).f2) x31_3]) := ⟨_, rfl⟩
                    replace H : (impl_BoxesOk.l1 k3 l1 y704 (wrap64 (x10_3 + ((rd_T80 l1 t700).f1))) l2 (l2.length : Int) x24_2 ((rd_T62 l2 x24_2).f2) (((rd_T62 l2 x24_2).f2).length : Int) (wrap64 (x31_3 + 1)) a0_0 a0_1 ((rd_T62 l2 x24_2).f0) ((rd_T62 l2 x24_2).f1) ((rd_T62 l2 x24_2).f2)) = some r := by first | (rw [hy704]; with_reducible exact H) | (have H2_ := (Option.bind_some _ _).symm.trans H; rw [hy704]; with_reducible exact H2_) | (have H2_ := (Option.bind_some _ _).symm.trans H; with_reducible exact H2_) | with_reducible exact H | (rw [hy704]; exact H) | exact H
                    have Ny704 := Aside0.mk hy704
                    clear hy704
                    have H' := Aside0.mk H
                    clear H
                    have p698 : 0 ≤ (x31_3 : Int) := of_decide_eq_true zf43_9
                    have q698 : x31_3 < (((rd_T62 l2 x24_2).f2).length : Int) := of_decide_eq_true zf43_9
                    obtain ⟨ad698, e698, hx698_0⟩ := Kd.at_int HR696_2.out x31_3 p698 q698
                    cases e698
                    replace hx698_0 := (HB.out.cell (World.block_lt_of_cell? w _ hx698_0)).trans hx698_0
                    replace p698 := eq_true p698
                    replace q698 := eq_true q698
                    go_wp2_with (first | ((with_reducible refine gate_dst (N := 12) rfl ?_); (try (refine gate_guard (by rfl) ?_; dsimp only)); refine box_event ?hg (N := 12) ?hd (cs := #[.int .i64 0]) (t := 3) ?hr ?_; (case hd => rfl); (case hg => rfl); (case hr => first | (go_simp; done) | (go_simp; rfl)); intro gb699 hg w46 hbox hb; have n0_ := Aside0.mk (Kd.R_below (Kd.R_elderB zf43_14 gb699 (Nat.le_of_eq hg.symm)) hb); have n1_ := Aside0.mk (blk_below (g := gb693) (o := .cells #[.int .i64 a0_0, .int .i64 a0_1] 49 (0, 0)) zf43_2 hb); have n2_ := Aside0.mk (blk_below (g := gb697) (o := .cells #[.int .i64 ((rd_T62 l2 x24_2).f0), .int .i64 ((rd_T62 l2 x24_2).f1), .slice (some ad698) ((rd_T62 l2 x24_2).f2).length c696_2] 62 (0, 0)) zf43_4 hb); have n3_ := Aside0.mk (below_step zf43_0 hb); have n4_ := Aside0.mk (hbox); have n5_ := Aside0.mk ((by rw [hg]; exact (below_size zf43_0) : w.heap.size ≤ gb699)); have n6_ := Aside0.mk ((by rw [hg]; exact (below_size zf43_0) : w.heap.size ≤ gb699)); have n7_ := Aside0.mk ((zf43_12 : gb693 ≠ gb699)); have n8_ := Aside0.mk ((zf43_13 : gb699 ≠ gb693)); have n9_ := Aside0.mk ((zf43_10 : gb697 ≠ gb699)); have n10_ := Aside0.mk ((zf43_11 : gb699 ≠ gb697)); clear HO_7; clear BK693; clear BK697; clear HB; have HO_7 := n0_; have BK693 := n1_; have BK697 := n2_; have HB := n3_; have BK699 := n4_; have GW699 := n5_; have GE699 := n6_; have NB693_699 := n7_; have NB699_693 := n8_; have NB697_699 := n9_; have NB699_697 := n10_; clear n0_ n1_ n2_ n3_ n4_ n5_ n6_ n7_ n8_ n9_ n10_; clear hb hbox hg; have hnb47 := NB699_693.out; have hnc47 := NB693_699.out; have hnb48 := NB699_697.out; have hnc48 := NB697_699.out; have hcz49_0 : w46.cell? ⟨gb699, 0, none⟩ = some (.int .i64 0) := (blk_cell BK699.out 0).trans rfl; have hfz49_0 := blk_frozen BK699.out 0) | (go_at_call 76; (with_reducible refine (impl_BoxesOk_1__slices_IndexFunc_impl_Piece.calls _ _ l1 (rd ((rd_T62 l2 x24_2).f2) x31_3) gb699 t700 _ ?side1 ?side2 ?side3 A24.out).mono ?_); (case side1 => exact Kd.C_below HR1.out zf43_1); (case side2 => exact HC1.out); (case side3 => exact zf43_3); rintro e w50 ⟨rfl, hb⟩; have n0_ := Aside0.mk (Kd.R_below zf43_5 hb); have n1_ := Aside0.mk (blk_below (g := gb693) (o := .cells #[.int .i64 a0_0, .int .i64 a0_1] 49 (0, 0)) zf43_7 hb); have n2_ := Aside0.mk (blk_below (g := gb697) (o := .cells #[.int .i64 ((rd_T62 l2 x24_2).f0), .int .i64 ((rd_T62 l2 x24_2).f1), .slice (some ad698) ((rd_T62 l2 x24_2).f2).length c696_2] 62 (0, 0)) zf43_8 hb); have n3_ := Aside0.mk (blk_below (g := gb699) (o := .cells #[.int .i64 (rd ((rd_T62 l2 x24_2).f2) x31_3)] 3 (0, 0)) zf43_3 hb); have n4_ := Aside0.mk (below_step zf43_1 hb); clear HO_7; clear BK693; clear BK697; clear BK699; clear HB; have HO_7 := n0_; have BK693 := n1_; have BK697 := n2_; have BK699 := n3_; have HB := n4_; clear n0_ n1_ n2_ n3_ n4_; (try clear hb); (try clear hb2); (try clear hk); (try clear hi); have p701 : 0 ≤ (t700 : Int) := of_decide_eq_true zf43_9; have q701 : t700 < (l1.length : Int) := of_decide_eq_true zf43_9; obtain ⟨ad701, e701, hx701_0, hx701_1, hx701_2⟩ := at_T80 HR1.out t700 p701 q701; cases e701; replace hx701_0 := (HB.out.cell (World.block_lt_of_cell? w _ hx701_0)).trans hx701_0; replace hx701_1 := (HB.out.cell (World.block_lt_of_cell? w _ hx701_1)).trans hx701_1; replace hx701_2 := (HB.out.cell (World.block_lt_of_cell? w _ hx701_2)).trans hx701_2; replace p701 := eq_true p701; replace q701 := eq_true q701; have hnb51 := NB697_693.out; have hnc51 := NB693_697.out; have hcz52_0 : w50.cell? ⟨gb697, 0, none⟩ = some (.int .i64 ((rd_T62 l2 x24_2).f0)) := (blk_cell BK697.out 0).trans rfl; have hcz52_1 : w50.cell? ⟨gb697, 1, none⟩ = some (.int .i64 ((rd_T62 l2 x24_2).f1)) := (blk_cell BK697.out 1).trans rfl; have hcz52_2 : w50.cell? ⟨gb697, 2, none⟩ = some (.slice (some ad698) ((rd_T62 l2 x24_2).f2).length c696_2) := (blk_cell BK697.out 2).trans rfl; have hfz52_0 := blk_frozen BK697.out 0; have hfz52_1 := blk_frozen BK697.out 1; have hfz52_2 := blk_frozen BK697.out 2; have hcz53_0 : w50.cell? ⟨gb699, 0, none⟩ = some (.int .i64 (rd ((rd_T62 l2 x24_2).f2) x31_3)) := (blk_cell BK699.out 0).trans rfl; have hfz53_0 := blk_frozen BK699.out 0; obtain ⟨Ao54, co54, eo54⟩ := Kd.R_slice HO_7.out; subst eo54))
                    repeat (go_quiet ((go_at_call 78; (with_reducible refine (slices_Contains_int_int.calls k3 _ _ x7_3 (rd ((rd_T62 l2 x24_2).f2) x31_3) false _ ?side1 ?side2 A34.out).mono ?_); (case side1 => repeat (first | exact (Kd.R_reads' HO_7.out).2.2 | (with_reducible refine Kd.C_alloc ?_ _) | (with_reducible refine Kd.C_drewN ?_ _) | (with_reducible refine Kd.C_drew ?_))); (case side2 => exact (Kd.R_reads' HO_7.out).2.1); rintro e w' ⟨rfl, ⟨nd, rfl⟩⟩; (try first | exact ⟨rfl, _, World.drewN_drewN _ _ _⟩ | exact ⟨rfl, _, Eq.trans (World.drewN_drewN _ _ _) (congrArg (World.drewN _) (Nat.add_assoc _ _ _))⟩); have p703 : 0 ≤ (t700 : Int) := of_decide_eq_true zf43_9; have q703 : t700 < (l1.length : Int) := of_decide_eq_true zf43_9; obtain ⟨ad703, e703, hx703_0, hx703_1, hx703_2⟩ := at_T80 HR1.out t700 p703 q703; obtain rfl : ad701 = ad703 := (by injection e703); replace hx703_0 := (HB.out.cell (World.block_lt_of_cell? w _ hx703_0)).trans hx703_0; replace hx703_1 := (HB.out.cell (World.block_lt_of_cell? w _ hx703_1)).trans hx703_1; replace hx703_2 := (HB.out.cell (World.block_lt_of_cell? w _ hx703_2)).trans hx703_2; replace p703 := eq_true p703; replace q703 := eq_true q703)); try go_wp2_with ((with_reducible refine gate_builtin (b := .append) (xs := #[.tmp 62, .tmp 64]) rfl ?_); (try (refine gate_guard (by rfl) ?_; dsimp only)); at_builtin; refine Kd.R_append (Kd.int .i64) (w0 := w) w.heap.size rfl (.tmp 62) (.tmp 64) 22 3 (.int .i64 0) 8 rfl Try.underlying22 info3 rfl (by decide) (by omega) (.slice Ao54 x7_3.length co54) x7_3 (rd ((rd_T62 l2 x24_2).f2) x31_3) [.int .i64 (rd ((rd_T62 l2 x24_2).f2) x31_3)] (fun k_ => k_ ≠ gb699) (fun _ => False) rfl rfl ?aP (fun _ hk => hk.elim) ?aF ?aO ?aB ?aS ?aL ?_; (case aP => exact rfl); (case aB => exact zf43_1); (case aF => exact (fun k_ hk => Kd.freshB (g := gb699) (o := .cells #[.int .i64 (rd ((rd_T62 l2 x24_2).f2) x31_3)] 3 (0, 0)) zf43_17 k_ hk)); (case aO => exact (by (with_reducible repeat (first | apply Kd.R_alloc | apply Kd.R_drewN | apply Kd.R_drew)); exact Kd.R_mono HO_7.out (fun _ hk => hk.2))); (case aS => exact (below_size zf43_1)); (case aL => have := LMc45.out; omega); intro v705 w55 ho hb hg hat; rw [← Ny704.out] at ho; have n0_ := Aside0.mk (blk_grown (g := gb693) (o := .cells #[.int .i64 a0_0, .int .i64 a0_1] 49 (0, 0)) zf43_2 hg (Kd.R_ne HO_7.out BK693.out (by decide))); have n1_ := Aside0.mk (blk_grown (g := gb697) (o := .cells #[.int .i64 ((rd_T62 l2 x24_2).f0), .int .i64 ((rd_T62 l2 x24_2).f1), .slice (some ad698) ((rd_T62 l2 x24_2).f2).length c696_2] 62 (0, 0)) zf43_4 hg (Kd.R_ne HO_7.out BK697.out (by decide))); have n2_ := Aside0.mk (blk_grown (g := gb699) (o := .cells #[.int .i64 (rd ((rd_T62 l2 x24_2).f2) x31_3)] 3 (0, 0)) zf43_17 hg (Kd.R_away HO_7.out (fun _ hk => hk.2))); have n3_ := Aside0.mk (hb); have n4_ := Aside0.mk (ho); clear BK693; clear BK697; clear BK699; clear HB; clear HO_7; have BK693 := n0_; have BK697 := n1_; have BK699 := n2_; have HB := n3_; have HO706 := n4_; clear n0_ n1_ n2_ n3_ n4_; clear ho hb hg hat))
                    go_roundg k3
                    case measure => have := HJ3.out; have := HK2.out; have := HK3.out; omega
                    case rel => exact ⟨(y704), (wrap64 (x10_3 + ((rd_T80 l1 t700).f1))), (wrap64 (x31_3 + 1)), zf43_15, zf43_15, H', ⟨by have := HJ3.out; have := HK2.out; have := HK3.out; omega⟩, ⟨by (with_reducible repeat (first | apply Kd.R_alloc | apply Kd.R_drewN | apply Kd.R_drew)); exact Kd.R_mono HO706.out (fun _ hk => trivial)⟩, ⟨by (with_reducible repeat (first | refine blk_drewN ?_ _ | refine blk_drew ?_ | refine blk_alloc ?_ _)); exact BK693.out⟩, ⟨by (with_reducible repeat (first | refine blk_drewN ?_ _ | refine blk_drew ?_ | refine blk_alloc ?_ _)); exact BK697.out⟩, ⟨by repeat (first | (with_reducible first | exact HB.out | apply below_alloc | apply pw_below_drewN | apply below_drew1 | refine below_set ?_ GE693.out | refine below_set ?_ GE697.out | refine below_set ?_ GE699.out) | exact HB.out)⟩⟩
                   ·
                    rw [if_neg c45] at H
                    exact absurd H (by simp)
                 ·
                  rw [if_neg c33] at H
                  have c33b0 : (((rd_T80 l1 t700).f2) == ((rd_T62 l2 x24_2).f0)) = false := beq_eq_false_iff_ne.mpr c33
                  have c33b1 : (((rd_T80 l1 t700).f2) != ((rd_T62 l2 x24_2).f0)) = true := bne_iff_ne.mpr c33
                  obtain rfl := Option.some.inj H
                  have p698 : 0 ≤ (x31_3 : Int) := of_decide_eq_true zf43_9
                  have q698 : x31_3 < (((rd_T62 l2 x24_2).f2).length : Int) := of_decide_eq_true zf43_9
                  obtain ⟨ad698, e698, hx698_0⟩ := Kd.at_int HR696_2.out x31_3 p698 q698
                  cases e698
                  replace hx698_0 := (HB.out.cell (World.block_lt_of_cell? w _ hx698_0)).trans hx698_0
                  replace p698 := eq_true p698
                  replace q698 := eq_true q698
                  go_wp2_with (first | ((with_reducible refine gate_dst (N := 12) rfl ?_); (try (refine gate_guard (by rfl) ?_; dsimp only)); refine box_event ?hg (N := 12) ?hd (cs := #[.int .i64 0]) (t := 3) ?hr ?_; (case hd => rfl); (case hg => rfl); (case hr => first | (go_simp; done) | (go_simp; rfl)); intro gb699 hg w56 hbox hb; have n0_ := Aside0.mk (Kd.R_below (Kd.R_elderB zf43_14 gb699 (Nat.le_of_eq hg.symm)) hb); have n1_ := Aside0.mk (blk_below (g := gb693) (o := .cells #[.int .i64 a0_0, .int .i64 a0_1] 49 (0, 0)) zf43_2 hb); have n2_ := Aside0.mk (blk_below (g := gb697) (o := .cells #[.int .i64 ((rd_T62 l2 x24_2).f0), .int .i64 ((rd_T62 l2 x24_2).f1), .slice (some ad698) ((rd_T62 l2 x24_2).f2).length c696_2] 62 (0, 0)) zf43_4 hb); have n3_ := Aside0.mk (below_step zf43_0 hb); have n4_ := Aside0.mk (hbox); have n5_ := Aside0.mk ((by rw [hg]; exact (below_size zf43_0) : w.heap.size ≤ gb699)); have n6_ := Aside0.mk ((by rw [hg]; exact (below_size zf43_0) : w.heap.size ≤ gb699)); have n7_ := Aside0.mk ((zf43_12 : gb693 ≠ gb699)); have n8_ := Aside0.mk ((zf43_13 : gb699 ≠ gb693)); have n9_ := Aside0.mk ((zf43_10 : gb697 ≠ gb699)); have n10_ := Aside0.mk ((zf43_11 : gb699 ≠ gb697)); clear HO_7; clear BK693; clear BK697; clear HB; have HO_7 := n0_; have BK693 := n1_; have BK697 := n2_; have HB := n3_; have BK699 := n4_; have GW699 := n5_; have GE699 := n6_; have NB693_699 := n7_; have NB699_693 := n8_; have NB697_699 := n9_; have NB699_697 := n10_; clear n0_ n1_ n2_ n3_ n4_ n5_ n6_ n7_ n8_ n9_ n10_; clear hb hbox hg; have hnb57 := NB699_693.out; have hnc57 := NB693_699.out; have hnb58 := NB699_697.out; have hnc58 := NB697_699.out; have hcz59_0 : w56.cell? ⟨gb699, 0, none⟩ = some (.int .i64 0) := (blk_cell BK699.out 0).trans rfl; have hfz59_0 := blk_frozen BK699.out 0) | (go_at_call 76; (with_reducible refine (impl_BoxesOk_1__slices_IndexFunc_impl_Piece.calls _ _ l1 (rd ((rd_T62 l2 x24_2).f2) x31_3) gb699 t700 _ ?side1 ?side2 ?side3 A24.out).mono ?_); (case side1 => exact Kd.C_below HR1.out zf43_1); (case side2 => exact HC1.out); (case side3 => exact zf43_3); rintro e w60 ⟨rfl, hb⟩; have n0_ := Aside0.mk (Kd.R_below zf43_5 hb); have n1_ := Aside0.mk (blk_below (g := gb693) (o := .cells #[.int .i64 a0_0, .int .i64 a0_1] 49 (0, 0)) zf43_7 hb); have n2_ := Aside0.mk (blk_below (g := gb697) (o := .cells #[.int .i64 ((rd_T62 l2 x24_2).f0), .int .i64 ((rd_T62 l2 x24_2).f1), .slice (some ad698) ((rd_T62 l2 x24_2).f2).length c696_2] 62 (0, 0)) zf43_8 hb); have n3_ := Aside0.mk (blk_below (g := gb699) (o := .cells #[.int .i64 (rd ((rd_T62 l2 x24_2).f2) x31_3)] 3 (0, 0)) zf43_3 hb); have n4_ := Aside0.mk (below_step zf43_1 hb); clear HO_7; clear BK693; clear BK697; clear BK699; clear HB; have HO_7 := n0_; have BK693 := n1_; have BK697 := n2_; have BK699 := n3_; have HB := n4_; clear n0_ n1_ n2_ n3_ n4_; (try clear hb); (try clear hb2); (try clear hk); (try clear hi); have p701 : 0 ≤ (t700 : Int) := of_decide_eq_true zf43_9; have q701 : t700 < (l1.length : Int) := of_decide_eq_true zf43_9; obtain ⟨ad701, e701, hx701_0, hx701_1, hx701_2⟩ := at_T80 HR1.out t700 p701 q701; cases e701; replace hx701_0 := (HB.out.cell (World.block_lt_of_cell? w _ hx701_0)).trans hx701_0; replace hx701_1 := (HB.out.cell (World.block_lt_of_cell? w _ hx701_1)).trans hx701_1; replace hx701_2 := (HB.out.cell (World.block_lt_of_cell? w _ hx701_2)).trans hx701_2; replace p701 := eq_true p701; replace q701 := eq_true q701; have hnb61 := NB697_693.out; have hnc61 := NB693_697.out; have hcz62_0 : w60.cell? ⟨gb697, 0, none⟩ = some (.int .i64 ((rd_T62 l2 x24_2).f0)) := (blk_cell BK697.out 0).trans rfl; have hcz62_1 : w60.cell? ⟨gb697, 1, none⟩ = some (.int .i64 ((rd_T62 l2 x24_2).f1)) := (blk_cell BK697.out 1).trans rfl; have hcz62_2 : w60.cell? ⟨gb697, 2, none⟩ = some (.slice (some ad698) ((rd_T62 l2 x24_2).f2).length c696_2) := (blk_cell BK697.out 2).trans rfl; have hfz62_0 := blk_frozen BK697.out 0; have hfz62_1 := blk_frozen BK697.out 1; have hfz62_2 := blk_frozen BK697.out 2))
                  repeat (go_quiet (fail); try go_wp2_with fail)
                  go_ret
                  exact ⟨by first | rfl | (simp [errW_none, errW_some] <;> rfl) | (simp [*, errW_none, errW_some] <;> rfl), by repeat (first | (with_reducible first | exact HB.out | apply below_alloc | apply pw_below_drewN | apply below_drew1 | refine below_set ?_ GE693.out | refine below_set ?_ GE697.out | refine below_set ?_ GE699.out) | exact HB.out)⟩
                ·
                 rw [if_neg c32] at H
                 exact absurd H (by simp)
               ·
                rw [if_neg c31] at H
                exact absurd H (by simp)
             ·
              rw [if_neg c23] at H
              exact absurd H (by simp)
            ·
             rw [if_neg c22] at H
             exact absurd H (by simp)
           ·
            rw [if_neg c21] at H
            have c21b0 : decide (x31_3 < (((rd_T62 l2 x24_2).f2).length : Int)) = false := decide_eq_false c21
            clear c21
            by_cases c63 : (((rd_T62 l2 x24_2).f2).length : Int) = 0
            ·
             rw [if_pos c63] at H
             have c63b0 : ((((rd_T62 l2 x24_2).f2).length : Int) == 0) = true := beq_iff_eq.mpr c63
             have c63b1 : ((((rd_T62 l2 x24_2).f2).length : Int) != 0) = false := bne_eq_false_iff_eq.mpr c63
             clear c63
             obtain rfl := Option.some.inj H
             have hnb64 := NB697_693.out
             have hnc64 := NB693_697.out
             have hcz65_0 : wr.cell? ⟨gb697, 0, none⟩ = some (.int .i64 ((rd_T62 l2 x24_2).f0)) := (blk_cell BK697.out 0).trans rfl
             have hcz65_1 : wr.cell? ⟨gb697, 1, none⟩ = some (.int .i64 ((rd_T62 l2 x24_2).f1)) := (blk_cell BK697.out 1).trans rfl
             have hcz65_2 : wr.cell? ⟨gb697, 2, none⟩ = some (.slice A696_2 ((rd_T62 l2 x24_2).f2).length c696_2) := (blk_cell BK697.out 2).trans rfl
             have hfz65_0 := blk_frozen BK697.out 0
             have hfz65_1 := blk_frozen BK697.out 1
             have hfz65_2 := blk_frozen BK697.out 2
             go_wp2
             go_ret
             exact ⟨by first | rfl | (simp [errW_none, errW_some] <;> rfl) | (simp [*, errW_none, errW_some] <;> rfl), by repeat (first | (with_reducible first | exact HB.out | apply below_alloc | apply pw_below_drewN | apply below_drew1 | refine below_set ?_ GE693.out | refine below_set ?_ GE697.out) | exact HB.out)⟩
            ·
             rw [if_neg c63] at H
             have c63b0 : ((((rd_T62 l2 x24_2).f2).length : Int) == 0) = false := beq_eq_false_iff_ne.mpr c63
             have c63b1 : ((((rd_T62 l2 x24_2).f2).length : Int) != 0) = true := bne_iff_ne.mpr c63
             have c63b2 : ¬ (((rd_T62 l2 x24_2).f2) = []) := fun h_ => c63 (by rw [h_]; rfl)
             by_cases c66 : (((rd_T62 l2 x24_2).f2).length : Int) > a0_1
             ·
              rw [if_pos c66] at H
              have c66b0 : decide (a0_1 < (((rd_T62 l2 x24_2).f2).length : Int)) = true := decide_eq_true c66
              clear c66
              obtain rfl := Option.some.inj H
              have hnb67 := NB697_693.out
              have hnc67 := NB693_697.out
              have hcz68_0 : wr.cell? ⟨gb697, 0, none⟩ = some (.int .i64 ((rd_T62 l2 x24_2).f0)) := (blk_cell BK697.out 0).trans rfl
              have hcz68_1 : wr.cell? ⟨gb697, 1, none⟩ = some (.int .i64 ((rd_T62 l2 x24_2).f1)) := (blk_cell BK697.out 1).trans rfl
              have hcz68_2 : wr.cell? ⟨gb697, 2, none⟩ = some (.slice A696_2 ((rd_T62 l2 x24_2).f2).length c696_2) := (blk_cell BK697.out 2).trans rfl
              have hfz68_0 := blk_frozen BK697.out 0
              have hfz68_1 := blk_frozen BK697.out 1
              have hfz68_2 := blk_frozen BK697.out 2
              have hcz69_0 : wr.cell? ⟨gb693, 0, none⟩ = some (.int .i64 a0_0) := (blk_cell BK693.out 0).trans rfl
              have hcz69_1 : wr.cell? ⟨gb693, 1, none⟩ = some (.int .i64 a0_1) := (blk_cell BK693.out 1).trans rfl
              have hfz69_0 := blk_frozen BK693.out 0
              have hfz69_1 := blk_frozen BK693.out 1
              go_wp2
              go_ret
              exact ⟨by first | rfl | (simp [errW_none, errW_some] <;> rfl) | (simp [*, errW_none, errW_some] <;> rfl), by repeat (first | (with_reducible first | exact HB.out | apply below_alloc | apply pw_below_drewN | apply below_drew1 | refine below_set ?_ GE693.out | refine below_set ?_ GE697.out) | exact HB.out)⟩
             ·
              rw [if_neg c66] at H
              have c66b0 : decide (a0_1 < (((rd_T62 l2 x24_2).f2).length : Int)) = false := decide_eq_false c66
              clear c66
              by_cases c70 : x10_3 = ((rd_T62 l2 x24_2).f1)
              ·
               rw [if_pos c70] at H
               have c70b0 : (x10_3 == ((rd_T62 l2 x24_2).f1)) = true := beq_iff_eq.mpr c70
               have c70b1 : (x10_3 != ((rd_T62 l2 x24_2).f1)) = false := bne_eq_false_iff_eq.mpr c70
               clear c70
               by_cases c71 : x10_3 > a0_0
               ·
                rw [if_pos c71] at H
                have c71b0 : decide (a0_0 < x10_3) = true := decide_eq_true c71
                clear c71
                obtain rfl := Option.some.inj H
                have hnb72 := NB697_693.out
                have hnc72 := NB693_697.out
                have hcz73_0 : wr.cell? ⟨gb697, 0, none⟩ = some (.int .i64 ((rd_T62 l2 x24_2).f0)) := (blk_cell BK697.out 0).trans rfl
                have hcz73_1 : wr.cell? ⟨gb697, 1, none⟩ = some (.int .i64 ((rd_T62 l2 x24_2).f1)) := (blk_cell BK697.out 1).trans rfl
                have hcz73_2 : wr.cell? ⟨gb697, 2, none⟩ = some (.slice A696_2 ((rd_T62 l2 x24_2).f2).length c696_2) := (blk_cell BK697.out 2).trans rfl
                have hfz73_0 := blk_frozen BK697.out 0
                have hfz73_1 := blk_frozen BK697.out 1
                have hfz73_2 := blk_frozen BK697.out 2
                have hcz74_0 : wr.cell? ⟨gb693, 0, none⟩ = some (.int .i64 a0_0) := (blk_cell BK693.out 0).trans rfl
                have hcz74_1 : wr.cell? ⟨gb693, 1, none⟩ = some (.int .i64 a0_1) := (blk_cell BK693.out 1).trans rfl
                have hfz74_0 := blk_frozen BK693.out 0
                have hfz74_1 := blk_frozen BK693.out 1
                go_wp2
                go_ret
                exact ⟨by first | rfl | (simp [errW_none, errW_some] <;> rfl) | (simp [*, errW_none, errW_some] <;> rfl), by repeat (first | (with_reducible first | exact HB.out | apply below_alloc | apply pw_below_drewN | apply below_drew1 | refine below_set ?_ GE693.out | refine below_set ?_ GE697.out) | exact HB.out)⟩
               ·
                rw [if_neg c71] at H
                have c71b0 : decide (a0_0 < x10_3) = false := decide_eq_false c71
                clear c71
                have H' := Aside0.mk H
                clear H
                have hnb75 := NB697_693.out
                have hnc75 := NB693_697.out
                have hcz76_0 : wr.cell? ⟨gb697, 0, none⟩ = some (.int .i64 ((rd_T62 l2 x24_2).f0)) := (blk_cell BK697.out 0).trans rfl
                have hcz76_1 : wr.cell? ⟨gb697, 1, none⟩ = some (.int .i64 ((rd_T62 l2 x24_2).f1)) := (blk_cell BK697.out 1).trans rfl
                have hcz76_2 : wr.cell? ⟨gb697, 2, none⟩ = some (.slice A696_2 ((rd_T62 l2 x24_2).f2).length c696_2) := (blk_cell BK697.out 2).trans rfl
                have hfz76_0 := blk_frozen BK697.out 0
                have hfz76_1 := blk_frozen BK697.out 1
                have hfz76_2 := blk_frozen BK697.out 2
                have hcz77_0 : wr.cell? ⟨gb693, 0, none⟩ = some (.int .i64 a0_0) := (blk_cell BK693.out 0).trans rfl
                have hcz77_1 : wr.cell? ⟨gb693, 1, none⟩ = some (.int .i64 a0_1) := (blk_cell BK693.out 1).trans rfl
                have hfz77_0 := blk_frozen BK693.out 0
                have hfz77_1 := blk_frozen BK693.out 1
                go_wp2
                go_roundg k3
                case measure => have := HJ3.out; have := HK2.out; have := HK3.out; omega
                case rel => exact ⟨(x7_3), (wrap64 (x24_2 + 1)), zf43_15, H', ⟨by have := HJ3.out; have := HK2.out; have := HK3.out; omega⟩, ⟨by (with_reducible repeat (first | apply Kd.R_alloc | apply Kd.R_drewN | apply Kd.R_drew)); exact HO_7.out⟩, ⟨by (with_reducible repeat (first | refine blk_drewN ?_ _ | refine blk_drew ?_ | refine blk_alloc ?_ _)); exact BK693.out⟩, ⟨by repeat (first | (with_reducible first | exact HB.out | apply below_alloc | apply pw_below_drewN | apply below_drew1 | refine below_set ?_ GE693.out | refine below_set ?_ GE697.out) | exact HB.out)⟩⟩
              ·
               rw [if_neg c70] at H
               have c70b0 : (x10_3 == ((rd_T62 l2 x24_2).f1)) = false := beq_eq_false_iff_ne.mpr c70
               have c70b1 : (x10_3 != ((rd_T62 l2 x24_2).f1)) = true := bne_iff_ne.mpr c70
               obtain rfl := Option.some.inj H
               have hnb78 := NB697_693.out
               have hnc78 := NB693_697.out
               have hcz79_0 : wr.cell? ⟨gb697, 0, none⟩ = some (.int .i64 ((rd_T62 l2 x24_2).f0)) := (blk_cell BK697.out 0).trans rfl
               have hcz79_1 : wr.cell? ⟨gb697, 1, none⟩ = some (.int .i64 ((rd_T62 l2 x24_2).f1)) := (blk_cell BK697.out 1).trans rfl
               have hcz79_2 : wr.cell? ⟨gb697, 2, none⟩ = some (.slice A696_2 ((rd_T62 l2 x24_2).f2).length c696_2) := (blk_cell BK697.out 2).trans rfl
               have hfz79_0 := blk_frozen BK697.out 0
               have hfz79_1 := blk_frozen BK697.out 1
               have hfz79_2 := blk_frozen BK697.out 2
               have hcz80_0 : wr.cell? ⟨gb693, 0, none⟩ = some (.int .i64 a0_0) := (blk_cell BK693.out 0).trans rfl
               have hcz80_1 : wr.cell? ⟨gb693, 1, none⟩ = some (.int .i64 a0_1) := (blk_cell BK693.out 1).trans rfl
               have hfz80_0 := blk_frozen BK693.out 0
               have hfz80_1 := blk_frozen BK693.out 1
               go_wp2
               go_ret
               exact ⟨by first | rfl | (simp [errW_none, errW_some] <;> rfl) | (simp [*, errW_none, errW_some] <;> rfl), by repeat (first | (with_reducible first | exact HB.out | apply below_alloc | apply pw_below_drewN | apply below_drew1 | refine below_set ?_ GE693.out | refine below_set ?_ GE697.out) | exact HB.out)⟩
        ·
         rw [if_neg c17] at H
         exact absurd H (by simp)
       ·
        rw [if_neg c16] at H
        exact absurd H (by simp)
      ·
       rw [if_neg c15] at H
       have c15b0 : decide (x24_2 < (l2.length : Int)) = false := decide_eq_false c15
       clear c15
       obtain rfl := Option.some.inj H
       obtain ⟨Ao81, co81, eo81⟩ := Kd.R_slice HO_7.out
       subst eo81
       go_wp2
       go_ret
       exact ⟨by first | rfl | (simp [errW_none, errW_some] <;> rfl) | (simp [*, errW_none, errW_some] <;> rfl), by repeat (first | (with_reducible first | exact HB.out | apply below_alloc | apply pw_below_drewN | apply below_drew1 | refine below_set ?_ GE693.out) | exact HB.out)⟩

end Go.Proofs.Ytnldmnlfocigaaa.F

-- PRINTED by print.py (a twelfth state) out of the translation. Not trusted: Lean checks it.
import Derived.Test.YtnldmnlfocigaaaF
import Derived.Test.YtnldmnlfocigaaaAuto
import Derived.Test.YtnldmnlfocigaaaF33
import Derived.Test.YtnldmnlfocigaaaF51
import Derived.Test.YtnldmnlfocigaaaF79
import Derived.Test.YtnldmnlfocigaaaF80
namespace Go.Proofs.Ytnldmnlfocigaaa.F
open Go.Proofs.Ytnldmnlfocigaaa.Opn Go.Proofs.Ytnldmnlfocigaaa.Auto
open Go.RowKit Go.Proofs.YtnldmnlfocigaaaW.PrintWords Go.Proofs.YtnldmnlfocigaaaW.PrintLast
set_option linter.unusedVariables false
set_option linter.unusedSimpArgs false

theorem zf44_18 {p : Prop} (h : p := by have h_ : (x7_3 : Int) < ((x5_2.length : Int) : Int) := of_decide_eq_true zf44_1; first | exact h_ | (have e_ := (Kd.N_reads' HO_5.out).1; omega) | simpa using h_) : p := h
theorem zf44_17 {p : Prop} (h : p := by have h_ : (x7_3 : Int) < ((y741.length : Int) : Int) := of_decide_eq_true zf44_1; first | exact h_ | (have e_ := (Kd.N_reads' HO743.out).1; omega) | simpa using h_) : p := h
theorem zf44_16 {p : Prop} (h : p := by have h_ : (x7_3 : Int) < ((y722.length : Int) : Int) := of_decide_eq_true zf44_1; first | exact h_ | (have e_ := (Kd.N_reads' HO724.out).1; omega) | simpa using h_) : p := h
theorem zf44_15 {p : Prop} (h : p := by first | exact q719 | exact of_decide_eq_true zf44_1 | (have e_ := (Kd.N_reads' HO_5.out).1; omega)) : p := h
theorem zf44_14 {p : Prop} (h : p := by repeat (first | (with_reducible exact HR744_2.out) | (with_reducible refine Kd.C_alloc ?_ _) | (with_reducible refine Kd.C_drewN ?_ _) | (with_reducible refine Kd.C_drew ?_) | exact HR744_2.out)) : p := h
theorem zf44_13 {p : Prop} (h : p := by repeat (first | (with_reducible exact HR733_2.out) | (with_reducible refine Kd.C_alloc ?_ _) | (with_reducible refine Kd.C_drewN ?_ _) | (with_reducible refine Kd.C_drew ?_) | exact HR733_2.out)) : p := h
theorem zf44_12 {p : Prop} (h : p := by repeat (first | (with_reducible exact HR725_2.out) | (with_reducible refine Kd.C_alloc ?_ _) | (with_reducible refine Kd.C_drewN ?_ _) | (with_reducible refine Kd.C_drew ?_) | exact HR725_2.out)) : p := h
theorem zf44_11 {p : Prop} (h : p := by repeat (first | (with_reducible first | exact HB.out | apply below_alloc | apply pw_below_drewN | apply below_drew1) | exact HB.out)) : p := h
theorem zf44_10 {p : Prop} (h : p := by have h_ := Kd.N_away HO_5.out (fun _ hk => by first | exact hk.2 | exact hk.1.2 | exact hk.1.1.2); intro e_; exact h_ (by rw [e_]; rfl)) : p := h
theorem zf44_9 {p : Prop} (h : p := by have h_ := Kd.N_away HO743.out (fun _ hk => by first | exact hk.2 | exact hk.1.2 | exact hk.1.1.2); intro e_; exact h_ (by rw [e_]; rfl)) : p := h
theorem zf44_8 {p : Prop} (h : p := by have h_ := Kd.N_away HO724.out (fun _ hk => by first | exact hk.2 | exact hk.1.2 | exact hk.1.1.2); intro e_; exact h_ (by rw [e_]; rfl)) : p := h
theorem zf44_7 {p : Prop} (h : p := by first | rfl | (simp; done) | (simp [*]; done)) : p := h
theorem zf44_6 {p : Prop} (h : p := by (with_reducible repeat (first | apply Kd.N_alloc | apply Kd.N_drewN | apply Kd.N_drew)); exact HO_5.out) : p := h
theorem zf44_5 {p : Prop} (h : p := by (with_reducible repeat (first | apply Kd.V_alloc | apply Kd.V_drewN | apply Kd.V_drew)); exact HL719_2.out) : p := h
theorem zf44_4 {p : Prop} (h : p := by (try simp only [List.map_toArray, List.map_cons, List.map_nil]); first | done | rfl | (simp only [List.length_drop, List.length_take]; rfl)) : p := h
theorem zf44_3 {p : Prop} (h : p := by repeat (first | (with_reducible exact HR719_2.out) | (with_reducible refine Kd.C_alloc ?_ _) | (with_reducible refine Kd.C_drewN ?_ _) | (with_reducible refine Kd.C_drew ?_) | exact HR719_2.out)) : p := h
theorem zf44_2 {p : Prop} (h : p := by (with_reducible repeat (first | refine blk_drewN ?_ _ | refine blk_drew ?_ | refine blk_alloc ?_ _)); exact BK713.out) : p := h
theorem zf44_1 {p : Prop} (h : p := by first | (with_reducible assumption) | assumption) : p := h
theorem zf44_0 {p : Prop} (h : p := by repeat (first | (with_reducible first | exact HB.out | apply below_alloc | apply pw_below_drewN | apply below_drew1 | refine below_set ?_ GE713.out) | exact HB.out)) : p := h
/-! ### spec_FirstFit: function 44 -/
mutual
def spec_FirstFit.j0 : Nat → List (S80) → List (S62) → Bool → Int → Int → Option ((List (S62)))
  | 0, _, _, _, _, _ => none
  | k + 1, x1, x5, x16, x714000, x714001 => if x16 = true then (some x5) else (spec_FirstFit.l0 k x1 x5 0 x714000 x714001)
def spec_FirstFit.l0 : Nat → List (S80) → List (S62) → Int → Int → Int → Option ((List (S62)))
  | 0, _, _, _, _, _ => none
  | k + 1, x1, x5, x6, x714000, x714001 => if x6 < (x1.length : Int) then (spec_FirstFit.l1 k x1 x5 x6 0 x714000 x714001) else (some x5)
def spec_FirstFit.l1 : Nat → List (S80) → List (S62) → Int → Int → Int → Int → Option ((List (S62)))
  | 0, _, _, _, _, _, _ => none
  | k + 1, x1, x5, x6, x7, x714000, x714001 => if x7 < (x5.length : Int) then (if 0 ≤ x7 then (if 0 ≤ x6 then (if x6 < (x1.length : Int) then ((spec_l07Takes.f x714000 x714001 ((rd_T62 x5 x7).f0) ((rd_T62 x5 x7).f1) ((rd_T62 x5 x7).f2) ((rd_T80 x1 x6).f0) ((rd_T80 x1 x6).f1) ((rd_T80 x1 x6).f2)).bind fun t721 => (if t721 = true then (if x7 = (x5.length : Int) then (if x5.length < 3518437208883 then ((some (x5 ++ [(⟨0, 0, ([] : List Int)⟩ : S62)] : List (S62))).bind fun y722 => (if x7 < (y722.length : Int) then ((spec_l07With.f ((rd_T62 y722 x7).f0) ((rd_T62 y722 x7).f1) ((rd_T62 y722 x7).f2) ((rd_T80 x1 x6).f0) ((rd_T80 x1 x6).f1) ((rd_T80 x1 x6).f2)).bind fun bt727 => (spec_FirstFit.l0 k x1 (y722.set (x7 : Int).toNat (⟨bt727.1, bt727.2.1, bt727.2.2⟩ : S62)) (wrap64 (x6 + 1)) x714000 x714001)) else (none))) else (none)) else ((spec_l07With.f ((rd_T62 x5 x7).f0) ((rd_T62 x5 x7).f1) ((rd_T62 x5 x7).f2) ((rd_T80 x1 x6).f0) ((rd_T80 x1 x6).f1) ((rd_T80 x1 x6).f2)).bind fun bt735 => (spec_FirstFit.l0 k x1 (x5.set (x7 : Int).toNat (⟨bt735.1, bt735.2.1, bt735.2.2⟩ : S62)) (wrap64 (x6 + 1)) x714000 x714001))) else (spec_FirstFit.l1 k x1 x5 x6 (wrap64 (x7 + 1)) x714000 x714001))) else (none)) else (none)) else (none)) else (if x7 = (x5.length : Int) then (if x5.length < 3518437208883 then ((some (x5 ++ [(⟨0, 0, ([] : List Int)⟩ : S62)] : List (S62))).bind fun y741 => (if 0 ≤ x7 then (if x7 < (y741.length : Int) then (if 0 ≤ x6 then (if x6 < (x1.length : Int) then ((spec_l07With.f ((rd_T62 y741 x7).f0) ((rd_T62 y741 x7).f1) ((rd_T62 y741 x7).f2) ((rd_T80 x1 x6).f0) ((rd_T80 x1 x6).f1) ((rd_T80 x1 x6).f2)).bind fun bt746 => (spec_FirstFit.l0 k x1 (y741.set (x7 : Int).toNat (⟨bt746.1, bt746.2.1, bt746.2.2⟩ : S62)) (wrap64 (x6 + 1)) x714000 x714001)) else (none)) else (none)) else (none)) else (none))) else (none)) else (if 0 ≤ x7 then (none) else (none)))
end
def spec_FirstFit.f (k : Nat) (a0_0 : Int) (a0_1 : Int) (l1 : List (S80)) : Option ((List (S62))) := (some (([] : List (S62)) : List (S62))).bind fun y714 => ((spec_LimitsOk.f a0_0 a0_1).bind fun t717 => (if t717 = true then ((spec_PiecesOk.f k l1).bind fun t718 => (spec_FirstFit.j0 k l1 y714 (!t718) a0_0 a0_1)) else (spec_FirstFit.j0 k l1 y714 true a0_0 a0_1)))
theorem spec_FirstFit.mono_l : ∀ k, (∀ y0 y1 y2 y3 y4, LeO (spec_FirstFit.j0 k y0 y1 y2 y3 y4) (spec_FirstFit.j0 (k + 1) y0 y1 y2 y3 y4)) ∧ (∀ y0 y1 y2 y3 y4, LeO (spec_FirstFit.l0 k y0 y1 y2 y3 y4) (spec_FirstFit.l0 (k + 1) y0 y1 y2 y3 y4)) ∧ (∀ y0 y1 y2 y3 y4 y5, LeO (spec_FirstFit.l1 k y0 y1 y2 y3 y4 y5) (spec_FirstFit.l1 (k + 1) y0 y1 y2 y3 y4 y5))
  | 0 => ⟨fun _ _ _ _ _ r h => by simp [spec_FirstFit.j0] at h, fun _ _ _ _ _ r h => by simp [spec_FirstFit.l0] at h, fun _ _ _ _ _ _ r h => by simp [spec_FirstFit.l1] at h⟩
  | k + 1 => by
    obtain ⟨ih0, ih1, ih2⟩ := spec_FirstFit.mono_l k
    refine ⟨?_, ?_, ?_⟩
    · intro y0 y1 y2 y3 y4
      unfold spec_FirstFit.j0
      repeat' first
      | (with_reducible exact ih0 _ _ _ _ _)
      | (with_reducible exact ih1 _ _ _ _ _)
      | (with_reducible exact ih2 _ _ _ _ _ _)
      | (with_reducible exact spec_PiecesOk.mono _ _)
      | (with_reducible exact LeO.refl _)
      | (with_reducible exact LeO.none _)
      | (with_reducible refine LeO.ite ?_ ?_)
      | (with_reducible refine LeO.bind ?_ (fun _ => ?_))
      | exact ih0 _ _ _ _ _
      | exact ih1 _ _ _ _ _
      | exact ih2 _ _ _ _ _ _
      | exact spec_PiecesOk.mono _ _
      | exact LeO.none _
      | refine LeO.ite ?_ ?_
      | refine LeO.bind ?_ (fun _ => ?_)
    · intro y0 y1 y2 y3 y4
      unfold spec_FirstFit.l0
      repeat' first
      | (with_reducible exact ih0 _ _ _ _ _)
      | (with_reducible exact ih1 _ _ _ _ _)
      | (with_reducible exact ih2 _ _ _ _ _ _)
      | (with_reducible exact spec_PiecesOk.mono _ _)
      | (with_reducible exact LeO.refl _)
      | (with_reducible exact LeO.none _)
      | (with_reducible refine LeO.ite ?_ ?_)
      | (with_reducible refine LeO.bind ?_ (fun _ => ?_))
      | exact ih0 _ _ _ _ _
      | exact ih1 _ _ _ _ _
      | exact ih2 _ _ _ _ _ _
      | exact spec_PiecesOk.mono _ _
      | exact LeO.none _
      | refine LeO.ite ?_ ?_
      | refine LeO.bind ?_ (fun _ => ?_)
    · intro y0 y1 y2 y3 y4 y5
      unfold spec_FirstFit.l1
      repeat' first
      | (with_reducible exact ih0 _ _ _ _ _)
      | (with_reducible exact ih1 _ _ _ _ _)
      | (with_reducible exact ih2 _ _ _ _ _ _)
      | (with_reducible exact spec_PiecesOk.mono _ _)
      | (with_reducible exact LeO.refl _)
      | (with_reducible exact LeO.none _)
      | (with_reducible refine LeO.ite ?_ ?_)
      | (with_reducible refine LeO.bind ?_ (fun _ => ?_))
      | exact ih0 _ _ _ _ _
      | exact ih1 _ _ _ _ _
      | exact ih2 _ _ _ _ _ _
      | exact spec_PiecesOk.mono _ _
      | exact LeO.none _
      | refine LeO.ite ?_ ?_
      | refine LeO.bind ?_ (fun _ => ?_)
theorem spec_FirstFit.mono : ∀ a0 a1 a2 k, LeO (spec_FirstFit.f k a0 a1 a2) (spec_FirstFit.f (k + 1) a0 a1 a2) := by
  intro a0 a1 a2 k
  obtain ⟨ih0, ih1, ih2⟩ := spec_FirstFit.mono_l k
  unfold spec_FirstFit.f
  repeat' first
      | (with_reducible exact ih0 _ _ _ _ _)
      | (with_reducible exact ih1 _ _ _ _ _)
      | (with_reducible exact ih2 _ _ _ _ _ _)
      | (with_reducible exact spec_PiecesOk.mono _ _)
      | (with_reducible exact LeO.refl _)
      | (with_reducible exact LeO.none _)
      | (with_reducible refine LeO.ite ?_ ?_)
      | (with_reducible refine LeO.bind ?_ (fun _ => ?_))
      | exact ih0 _ _ _ _ _
      | exact ih1 _ _ _ _ _
      | exact ih2 _ _ _ _ _ _
      | exact spec_PiecesOk.mono _ _
      | exact LeO.none _
      | refine LeO.ite ?_ ?_
      | refine LeO.bind ?_ (fun _ => ?_)
def spec_FirstFit.T8 : Bool × List (List Nat × List Nat) := (true, [([], []), ([], []), ([1], [1]), ([0, 2], [0, 2]), ([3], [3]), ([4], [4]), ([4], [4]), ([4], [4]), ([6, 7, 4], [4, 6, 7]), ([8, 4], [4, 8]), ([4], [4]), ([4], [4]), ([10, 11, 4], [4, 10, 11]), ([12, 4], [4, 12]), ([5, 9, 13, 4, 4], [4, 5, 9, 13]), ([14, 4], [4, 14]), ([4, 15], [4, 15])])
def spec_FirstFit.B8 : List Nat := [0, 0, 2, 7, 15, 31, 31, 31, 223, 479, 31, 31, 3103, 7199, 16383, 32767, 65535]
theorem spec_FirstFit.tab8 : rtab .any (opsOf Try.f44 8) = spec_FirstFit.T8 := by kernel_rfl
theorem spec_FirstFit.bits8 : waitsOk spec_FirstFit.T8.2 spec_FirstFit.B8 = true := by kernel_rfl
def spec_FirstFit.T12 : Bool × List (List Nat × List Nat) := (true, [([], []), ([], []), ([], []), ([], []), ([2, 3], [2, 3]), ([4], [4]), ([], []), ([], []), ([6, 7], [6, 7]), ([8], [8]), ([5, 9], [5, 9]), ([0, 1, 0, 1, 2, 3, 4, 5, 6, 7, 8, 9, 10], [0, 1]), ([11, 10, 10, 0, 1, 2, 3, 4, 5, 6, 7, 8, 9, 10], [10, 11])])
def spec_FirstFit.B12 : List Nat := [0, 0, 0, 0, 12, 28, 0, 0, 192, 448, 1020, 2047, 4095]
theorem spec_FirstFit.tab12 : rtab .any (opsOf Try.f44 12) = spec_FirstFit.T12 := by kernel_rfl
theorem spec_FirstFit.bits12 : waitsOk spec_FirstFit.T12.2 spec_FirstFit.B12 = true := by kernel_rfl
set_option maxHeartbeats 8000000 in
set_option maxRecDepth 100000 in
theorem spec_FirstFit.calls (k : Nat) (a0_0 : Int) (a0_1 : Int) (A1 : Option Addr) (c1 : Nat) (l1 : List (S80)) (r : List (S62)) (w : World) (hr1 : Kd.C k80 w A1 l1.length l1) (hc1 : l1.length ≤ c1) (h : spec_FirstFit.f k a0_0 a0_1 l1 = some r) :
    Calls Try.prog 44 #[.agg #[.int .i64 a0_0, .int .i64 a0_1], .slice A1 l1.length c1] w fun e w' => ∃ v0_ : Value, e = .returned (v0_) ∧ Kd.N k62 62 w' w.heap.size (fun k_ => (w.heap.size ≤ k_)) v0_ r ∧ Below w.heap.size w w' := by
  have hu49 := Try.underlying49
  have hu62 := Try.underlying62
  have hu80 := Try.underlying80
  have HR1 := Aside0.mk hr1
  have HC1 := Aside0.mk hc1
  clear hr1 hc1
  have HB := Aside0.mk (Below.refl w.heap.size w)
  have H : ((some (([] : List (S62)) : List (S62))).bind fun y714 => ((spec_LimitsOk.f a0_0 a0_1).bind fun t717 => (if t717 = true then ((spec_PiecesOk.f k l1).bind fun t718 => (spec_FirstFit.j0 k l1 y714 (!t718) a0_0 a0_1)) else (spec_FirstFit.j0 k l1 y714 true a0_0 a0_1)))) = some r := h
  clear h
  obtain ⟨y714, hy714⟩ : ∃ y_ : List (S62), y_ = (([] : List (S62))) := ⟨_, rfl⟩
  replace H : ((spec_LimitsOk.f a0_0 a0_1).bind fun t717 => (if t717 = true then ((spec_PiecesOk.f k l1).bind fun t718 => (spec_FirstFit.j0 k l1 y714 (!t718) a0_0 a0_1)) else (spec_FirstFit.j0 k l1 y714 true a0_0 a0_1))) = some r := by first | (rw [hy714]; with_reducible exact H) | (have H2_ := (Option.bind_some _ _).symm.trans H; rw [hy714]; with_reducible exact H2_) | (have H2_ := (Option.bind_some _ _).symm.trans H; with_reducible exact H2_) | with_reducible exact H | (rw [hy714]; exact H) | exact H
  have Ny714 := Aside0.mk hy714
  clear hy714
  have HC3 := Aside0.mk H
  clear H
  go_enter Try.func44, Try.ntmps44
  go_upto_region 2 with (first | ((with_reducible refine gate_dst (N := 2) rfl ?_); refine box_event ?hg (N := 2) ?hd (cs := #[.int .i64 a0_0, .int .i64 a0_1]) (t := 49) ?hr ?_; (case hd => rfl); (case hg => rfl); (case hr => first | (go_simp; done) | (go_simp; rfl)); intro gb713 hg w4 hbox hb; have n0_ := Aside0.mk (below_step zf44_11 hb); have n1_ := Aside0.mk (hbox); have n2_ := Aside0.mk ((by rw [hg]; exact (below_size zf44_11) : w.heap.size ≤ gb713)); have n3_ := Aside0.mk ((by rw [hg]; exact (below_size zf44_11) : w.heap.size ≤ gb713)); clear HB; have HB := n0_; have BK713 := n1_; have GW713 := n2_; have GE713 := n3_; clear n0_ n1_ n2_ n3_; clear hb hbox hg) | ((with_reducible refine gate_dst (N := 8) rfl ?_); refine Kd.N_lit k62 _ 62 ?hg (N' := 8) ?hd (xs := ([] : List (S62))) (inner := []) (ok := (fun k_ => (w.heap.size ≤ k_) ∧ k_ ≠ gb713)) (okp := (fun k_ => (w.heap.size ≤ k_) ∧ k_ ≠ gb713)) ?hr ?hp (fun _ hk => hk) ((show ∀ k_, w4.heap.size ≤ k_ → (fun k_ => (w.heap.size ≤ k_) ∧ k_ ≠ gb713) k_ from fun k_ hk => ⟨(Nat.le_trans (below_size zf44_0) hk), Kd.freshB (g := gb713) (o := .cells #[.int .i64 a0_0, .int .i64 a0_1] 49 (0, 0)) zf44_2 k_ hk⟩) _ (Nat.le_refl _)) (Below.refl _ _) (Nat.le_refl _) (by simp) ?_; (case hd => rfl); (case hg => rfl); (case hr => first | (go_simp; done) | (go_simp; rfl)); (case hp => exact (Reps.none _ _)); intro v715 w5 ho6 hb hg_ hnew_; clear hg_ hnew_; (first | rw [← Ny714.out] at ho6 | (simp only [Int.reduceToNat] at ho6; rw [← Ny714.out] at ho6)); have n0_ := Aside0.mk (Kd.N_lower ho6 (below_size zf44_0)); have n1_ := Aside0.mk (blk_below (g := gb713) (o := .cells #[.int .i64 a0_0, .int .i64 a0_1] 49 (0, 0)) zf44_2 hb); have n2_ := Aside0.mk (below_step zf44_0 hb); clear BK713; clear HB; have HO716 := n0_; have BK713 := n1_; have HB := n2_; clear n0_ n1_ n2_; clear hb ho6))
  (try simp only [Act.put, List.setIfInBounds_toArray, List.set_cons_zero, List.set_cons_succ])
  go_cut [16] (fun v16 wc => ∃ (kq : Nat) (x16_2 : Bool), v16 = .bool x16_2 ∧ Aside0 (spec_FirstFit.j0 kq l1 y714 x16_2 a0_0 a0_1 = some r) ∧ Aside0 (kq ≤ k) ∧ Aside0 (Kd.N k62 62 wc w.heap.size (fun k_ => (w.heap.size ≤ k_) ∧ k_ ≠ gb713) v715 y714) ∧ Aside0 (wc.heap[gb713]? = some (.cells #[.int .i64 a0_0, .int .i64 a0_1] 49 (0, 0))) ∧ Aside0 (Below w.heap.size w wc))
  case first =>
    have H := HC3.out
    clear HC3
    replace H := Option.bind_eq_some_iff.mp H
    obtain ⟨t717, A70, H⟩ := H
    replace H : (if t717 = true then ((spec_PiecesOk.f k l1).bind fun t718 => (spec_FirstFit.j0 k l1 y714 (!t718) a0_0 a0_1)) else (spec_FirstFit.j0 k l1 y714 true a0_0 a0_1)) = some r := H
    have A7 := Aside0.mk A70
    clear A70
    by_cases c8 : t717 = true
    · subst c8
      have H1 : ((spec_PiecesOk.f k l1).bind fun t718 => (spec_FirstFit.j0 k l1 y714 (!t718) a0_0 a0_1)) = some r := by rw [if_pos rfl] at H; exact H
      clear H
      have H := H1
      clear H1
      replace H := Option.bind_eq_some_iff.mp H
      obtain ⟨t718, A90, H⟩ := H
      replace H : (spec_FirstFit.j0 k l1 y714 (!t718) a0_0 a0_1) = some r := H
      have A9 := Aside0.mk A90
      clear A90
      have H' := Aside0.mk H
      clear H
      have hcz10_0 : w5.cell? ⟨gb713, 0, none⟩ = some (.int .i64 a0_0) := (blk_cell BK713.out 0).trans rfl
      have hcz10_1 : w5.cell? ⟨gb713, 1, none⟩ = some (.int .i64 a0_1) := (blk_cell BK713.out 1).trans rfl
      have hfz10_0 := blk_frozen BK713.out 0
      have hfz10_1 := blk_frozen BK713.out 1
      go_wp2_with (first | ((with_reducible refine gate_callee (f := 51) rfl ?_); refine goesL_ (some 10) rfl rfl Try.func51 (by kernel_rfl) rfl #[.agg #[.int .i64 a0_0, .int .i64 a0_1]] rfl zf44_4 ?_; (with_reducible refine (spec_LimitsOk.calls a0_0 a0_1 true _ A7.out).mono ?_); rintro e w11 ⟨rfl, hb⟩; refine ⟨_, rfl, ?_⟩; have n0_ := Aside0.mk (Kd.N_below (by (with_reducible repeat (first | apply Kd.N_alloc | apply Kd.N_drewN | apply Kd.N_drew)); exact HO716.out) hb); have n1_ := Aside0.mk (blk_below (g := gb713) (o := .cells #[.int .i64 a0_0, .int .i64 a0_1] 49 (0, 0)) zf44_2 hb); have n2_ := Aside0.mk (below_step zf44_0 hb); clear HO716; clear BK713; clear HB; have HO716 := n0_; have BK713 := n1_; have HB := n2_; clear n0_ n1_ n2_; (try clear hb); (try clear hb2); (try clear hk); (try clear hi)) | (go_at_call 33; (with_reducible refine (spec_PiecesOk.calls k _ _ l1 t718 _ ?side1 ?side2 A9.out).mono ?_); (case side1 => repeat (first | exact (Kd.C_below HR1.out HB.out) | (with_reducible refine Kd.C_alloc ?_ _) | (with_reducible refine Kd.C_drewN ?_ _) | (with_reducible refine Kd.C_drew ?_))); (case side2 => exact HC1.out); rintro e w' ⟨rfl, ⟨nd, rfl⟩⟩))
      go_meet
      case rel => exact ⟨_, (!t718), zf44_7, H', ⟨by first | omega | exact Nat.le_refl _⟩, ⟨by (with_reducible repeat (first | apply Kd.N_alloc | apply Kd.N_drewN | apply Kd.N_drew)); exact HO716.out⟩, ⟨by (with_reducible repeat (first | refine blk_drewN ?_ _ | refine blk_drew ?_ | refine blk_alloc ?_ _)); exact BK713.out⟩, ⟨by repeat (first | (with_reducible first | exact HB.out | apply below_alloc | apply pw_below_drewN | apply below_drew1 | refine below_set ?_ GE713.out) | exact HB.out)⟩⟩
    · replace c8 := Bool.eq_false_iff.mpr c8
      subst c8
      have H1 : (spec_FirstFit.j0 k l1 y714 true a0_0 a0_1) = some r := by rw [if_neg (show ¬ (false = true) by decide)] at H; exact H
      clear H
      have H := H1
      clear H1
      have H' := Aside0.mk H
      clear H
      have hcz12_0 : w5.cell? ⟨gb713, 0, none⟩ = some (.int .i64 a0_0) := (blk_cell BK713.out 0).trans rfl
      have hcz12_1 : w5.cell? ⟨gb713, 1, none⟩ = some (.int .i64 a0_1) := (blk_cell BK713.out 1).trans rfl
      have hfz12_0 := blk_frozen BK713.out 0
      have hfz12_1 := blk_frozen BK713.out 1
      go_wp2_with ((with_reducible refine gate_callee (f := 51) rfl ?_); refine goesL_ (some 10) rfl rfl Try.func51 (by kernel_rfl) rfl #[.agg #[.int .i64 a0_0, .int .i64 a0_1]] rfl zf44_4 ?_; (with_reducible refine (spec_LimitsOk.calls a0_0 a0_1 false _ A7.out).mono ?_); rintro e w13 ⟨rfl, hb⟩; refine ⟨_, rfl, ?_⟩; have n0_ := Aside0.mk (Kd.N_below (by (with_reducible repeat (first | apply Kd.N_alloc | apply Kd.N_drewN | apply Kd.N_drew)); exact HO716.out) hb); have n1_ := Aside0.mk (blk_below (g := gb713) (o := .cells #[.int .i64 a0_0, .int .i64 a0_1] 49 (0, 0)) zf44_2 hb); have n2_ := Aside0.mk (below_step zf44_0 hb); clear HO716; clear BK713; clear HB; have HO716 := n0_; have BK713 := n1_; have HB := n2_; clear n0_ n1_ n2_; (try clear hb); (try clear hb2); (try clear hk); (try clear hi))
      go_meet
      case rel => exact ⟨_, (true), zf44_7, H', ⟨by first | omega | exact Nat.le_refl _⟩, ⟨by (with_reducible repeat (first | apply Kd.N_alloc | apply Kd.N_drewN | apply Kd.N_drew)); exact HO716.out⟩, ⟨by (with_reducible repeat (first | refine blk_drewN ?_ _ | refine blk_drew ?_ | refine blk_alloc ?_ _)); exact BK713.out⟩, ⟨by repeat (first | (with_reducible first | exact HB.out | apply below_alloc | apply pw_below_drewN | apply below_drew1 | refine below_set ?_ GE713.out) | exact HB.out)⟩⟩
  case rest =>
    clear HC3
    try clear c1
    try clear p2
    try clear c4
    try clear c5
    try clear c8
    try clear hcz10_0
    try clear hcz10_1
    try clear hcz12_0
    try clear hcz12_1
    try clear hfz10_0
    try clear hfz10_1
    try clear hfz12_0
    try clear hfz12_1
    obtain ⟨kq, x16_2, rfl, HA, HJ2, HO_5, BK713, HB⟩ := hcut
    cases kq with
    | zero => exact absurd HA.out (by simp [spec_FirstFit.j0])
    | succ kj2 =>
      have H := HA.out
      clear HA
      simp only [spec_FirstFit.j0] at H
      by_cases c14 : x16_2 = true
      · subst c14
        have H1 : (some y714) = some r := by rw [if_pos rfl] at H; exact H
        clear H
        have H := H1
        clear H1
        obtain rfl := Option.some.inj H
        go_wp2
        go_ret
        exact ⟨_, by first | rfl | (simp [errW_none, errW_some] <;> rfl) | (simp [*, errW_none, errW_some] <;> rfl), by (with_reducible repeat (first | apply Kd.N_alloc | apply Kd.N_drewN | apply Kd.N_drew)); exact Kd.N_mono HO_5.out (fun _ hk => hk.1), by repeat (first | (with_reducible first | exact HB.out | apply below_alloc | apply pw_below_drewN | apply below_drew1 | refine below_set ?_ GE713.out) | exact HB.out)⟩
      · replace c14 := Bool.eq_false_iff.mpr c14
        subst c14
        have H1 : (spec_FirstFit.l0 kj2 l1 y714 0 a0_0 a0_1) = some r := by rw [if_neg (show ¬ (false = true) by decide)] at H; exact H
        clear H
        have H := H1
        clear H1
        have H' := Aside0.mk H
        clear H
        go_wp2
        go_loopg [5, 6] kj2 (fun kq v5 v6 w' => ∃ (x5_2 : List (S62)) (x6_2 : Int), v6 = .int .i64 x6_2 ∧ Aside0 (spec_FirstFit.l0 kq l1 x5_2 x6_2 a0_0 a0_1 = some r) ∧ Aside0 (kq ≤ kj2) ∧ Aside0 (Kd.N k62 62 w' w.heap.size (fun k_ => (w.heap.size ≤ k_) ∧ k_ ≠ gb713) v5 x5_2) ∧ Aside0 (w'.heap[gb713]? = some (.cells #[.int .i64 a0_0, .int .i64 a0_1] 49 (0, 0))) ∧ Aside0 (Below w.heap.size w w'))
        case atStart => exact ⟨(y714), (0), zf44_7, H', ⟨Nat.le_refl _⟩, ⟨by (with_reducible repeat (first | apply Kd.N_alloc | apply Kd.N_drewN | apply Kd.N_drew)); exact HO_5.out⟩, ⟨by (with_reducible repeat (first | refine blk_drewN ?_ _ | refine blk_drew ?_ | refine blk_alloc ?_ _)); exact BK713.out⟩, ⟨by repeat (first | (with_reducible first | exact HB.out | apply below_alloc | apply pw_below_drewN | apply below_drew1 | refine below_set ?_ GE713.out) | exact HB.out)⟩⟩
        case round =>
          clear H'
          try clear c1
          try clear p2
          try clear c4
          try clear c5
          try clear c8
          try clear c14
          try clear hcz10_0
          try clear hcz10_1
          try clear hcz12_0
          try clear hcz12_1
          try clear hfz10_0
          try clear hfz10_1
          try clear hfz12_0
          try clear hfz12_1
          try clear p2
          obtain ⟨x5_2, x6_2, rfl, HA, HK2, HO_5, BK713, HB⟩ := hrel
          cases gk with
          | zero => exact absurd HA.out (by simp [spec_FirstFit.l0])
          | succ k2 =>
            have H := HA.out
            clear HA
            simp only [spec_FirstFit.l0] at H
            by_cases c15 : x6_2 < (l1.length : Int)
            · rw [if_pos c15] at H
              have c15b0 : decide (x6_2 < (l1.length : Int)) = true := decide_eq_true c15
              clear c15
              have H' := Aside0.mk H
              clear H
              go_wp2
              go_loopg [7] k2 (fun kq v7 w' => ∃ (x7_3 : Int), v7 = .int .i64 x7_3 ∧ Aside0 (spec_FirstFit.l1 kq l1 x5_2 x6_2 x7_3 a0_0 a0_1 = some r) ∧ Aside0 (kq ≤ k2) ∧ Aside0 (Kd.N k62 62 w' w.heap.size (fun k_ => (w.heap.size ≤ k_) ∧ k_ ≠ gb713) u5 x5_2) ∧ Aside0 (w'.heap[gb713]? = some (.cells #[.int .i64 a0_0, .int .i64 a0_1] 49 (0, 0))) ∧ Aside0 (Below w.heap.size w w'))
              case atStart => exact ⟨(0), zf44_7, H', ⟨Nat.le_refl _⟩, ⟨by (with_reducible repeat (first | apply Kd.N_alloc | apply Kd.N_drewN | apply Kd.N_drew)); exact HO_5.out⟩, ⟨by (with_reducible repeat (first | refine blk_drewN ?_ _ | refine blk_drew ?_ | refine blk_alloc ?_ _)); exact BK713.out⟩, ⟨by repeat (first | (with_reducible first | exact HB.out | apply below_alloc | apply pw_below_drewN | apply below_drew1 | refine below_set ?_ GE713.out) | exact HB.out)⟩⟩
              case round =>
                clear H'
                try clear c1
                try clear p2
                try clear c4
                try clear c5
                try clear c8
                try clear c14
                try clear c15
                try clear c15b0
                try clear hcz10_0
                try clear hcz10_1
                try clear hcz12_0
                try clear hcz12_1
                try clear hfz10_0
                try clear hfz10_1
                try clear hfz12_0
                try clear hfz12_1
                try clear p2
                obtain ⟨x7_3, rfl, HA, HK3, HO_5, BK713, HB⟩ := hrel
                cases gk with
                | zero => exact absurd HA.out (by simp [spec_FirstFit.l1])
                | succ k3 =>
                  have H := HA.out
                  clear HA
                  simp only [spec_FirstFit.l1] at H
                  by_cases c16 : x7_3 < (x5_2.length : Int)
                  · rw [if_pos c16] at H
                    have c16b0 : decide (x7_3 < (x5_2.length : Int)) = true := decide_eq_true c16
                    clear c16
                    by_cases c17 : 0 ≤ x7_3
                    · rw [if_pos c17] at H
                      have c17b0 : decide (0 ≤ x7_3) = true := decide_eq_true c17
                      clear c17
                      by_cases c18 : 0 ≤ x6_2
                      · rw [if_pos c18] at H
                        have c18b0 : decide (0 ≤ x6_2) = true := decide_eq_true c18
                        clear c18
                        by_cases c19 : x6_2 < (l1.length : Int)
                        · rw [if_pos c19] at H
                          have c19b0 : decide (x6_2 < (l1.length : Int)) = true := decide_eq_true c19
                          clear c19
                          replace H := Option.bind_eq_some_iff.mp H
                          obtain ⟨t721, A200, H⟩ := H
                          replace H : (if t721 = true then (if x7_3 = (x5_2.length : Int) then (if x5_2.length < 3518437208883 then ((some (x5_2 ++ [(⟨0, 0, ([] : List Int)⟩ : S62)] : List (S62))).bind fun y722 => (if x7_3 < (y722.length : Int) then ((spec_l07With.f ((rd_T62 y722 x7_3).f0) ((rd_T62 y722 x7_3).f1) ((rd_T62 y722 x7_3).f2) ((rd_T80 l1 x6_2).f0) ((rd_T80 l1 x6_2).f1) ((rd_T80 l1 x6_2).f2)).bind fun bt727 => (spec_FirstFit.l0 k3 l1 (y722.set (x7_3 : Int).toNat (⟨bt727.1, bt727.2.1, bt727.2.2⟩ : S62)) (wrap64 (x6_2 + 1)) a0_0 a0_1)) else (none))) else (none)) else ((spec_l07With.f ((rd_T62 x5_2 x7_3).f0) ((rd_T62 x5_2 x7_3).f1) ((rd_T62 x5_2 x7_3).f2) ((rd_T80 l1 x6_2).f0) ((rd_T80 l1 x6_2).f1) ((rd_T80 l1 x6_2).f2)).bind fun bt735 => (spec_FirstFit.l0 k3 l1 (x5_2.set (x7_3 : Int).toNat (⟨bt735.1, bt735.2.1, bt735.2.2⟩ : S62)) (wrap64 (x6_2 + 1)) a0_0 a0_1))) else (spec_FirstFit.l1 k3 l1 x5_2 x6_2 (wrap64 (x7_3 + 1)) a0_0 a0_1)) = some r := H
                          have A20 := Aside0.mk A200
                          clear A200
                          by_cases c21 : t721 = true
                          · subst c21
                            have H1 : (if x7_3 = (x5_2.length : Int) then (if x5_2.length < 3518437208883 then ((some (x5_2 ++ [(⟨0, 0, ([] : List Int)⟩ : S62)] : List (S62))).bind fun y722 => (if x7_3 < (y722.length : Int) then ((spec_l07With.f ((rd_T62 y722 x7_3).f0) ((rd_T62 y722 x7_3).f1) ((rd_T62 y722 x7_3).f2) ((rd_T80 l1 x6_2).f0) ((rd_T80 l1 x6_2).f1) ((rd_T80 l1 x6_2).f2)).bind fun bt727 => (spec_FirstFit.l0 k3 l1 (y722.set (x7_3 : Int).toNat (⟨bt727.1, bt727.2.1, bt727.2.2⟩ : S62)) (wrap64 (x6_2 + 1)) a0_0 a0_1)) else (none))) else (none)) else ((spec_l07With.f ((rd_T62 x5_2 x7_3).f0) ((rd_T62 x5_2 x7_3).f1) ((rd_T62 x5_2 x7_3).f2) ((rd_T80 l1 x6_2).f0) ((rd_T80 l1 x6_2).f1) ((rd_T80 l1 x6_2).f2)).bind fun bt735 => (spec_FirstFit.l0 k3 l1 (x5_2.set (x7_3 : Int).toNat (⟨bt735.1, bt735.2.1, bt735.2.2⟩ : S62)) (wrap64 (x6_2 + 1)) a0_0 a0_1))) = some r := by rw [if_pos rfl] at H; exact H
                            clear H
                            have H := H1
                            clear H1
                            by_cases c22 : x7_3 = (x5_2.length : Int)
                            · rw [if_pos c22] at H
                              have c22b0 : (x7_3 == (x5_2.length : Int)) = true := beq_iff_eq.mpr c22
                              have c22b1 : (x7_3 != (x5_2.length : Int)) = false := bne_eq_false_iff_eq.mpr c22
                              clear c22
                              by_cases c23 : x5_2.length < 3518437208883
                              · rw [if_pos c23] at H
                                have LMc23 := Aside0.mk c23
                                clear c23
                                obtain ⟨y722, hy722⟩ : ∃ y_ : List (S62), y_ = (x5_2 ++ [(⟨0, 0, ([] : List Int)⟩ : S62)]) := ⟨_, rfl⟩
                                replace H : (if x7_3 < (y722.length : Int) then ((spec_l07With.f ((rd_T62 y722 x7_3).f0) ((rd_T62 y722 x7_3).f1) ((rd_T62 y722 x7_3).f2) ((rd_T80 l1 x6_2).f0) ((rd_T80 l1 x6_2).f1) ((rd_T80 l1 x6_2).f2)).bind fun bt727 => (spec_FirstFit.l0 k3 l1 (y722.set (x7_3 : Int).toNat (⟨bt727.1, bt727.2.1, bt727.2.2⟩ : S62)) (wrap64 (x6_2 + 1)) a0_0 a0_1)) else (none)) = some r := by first | (rw [hy722]; with_reducible exact H) | (have H2_ := (Option.bind_some _ _).symm.trans H; rw [hy722]; with_reducible exact H2_) | (have H2_ := (Option.bind_some _ _).symm.trans H; with_reducible exact H2_) | with_reducible exact H | (rw [hy722]; exact H) | exact H
                                have Ny722 := Aside0.mk hy722
                                clear hy722
                                by_cases c24 : x7_3 < (y722.length : Int)
                                · rw [if_pos c24] at H
                                  have c24b0 : decide (x7_3 < (y722.length : Int)) = true := decide_eq_true c24
                                  clear c24
                                  replace H := Option.bind_eq_some_iff.mp H
                                  obtain ⟨⟨t727, t728, t729⟩, A250, H⟩ := H
                                  replace H : (spec_FirstFit.l0 k3 l1 (y722.set (x7_3 : Int).toNat (⟨t727, t728, t729⟩ : S62)) (wrap64 (x6_2 + 1)) a0_0 a0_1) = some r := H
                                  have A25 := Aside0.mk A250
                                  clear A250
                                  obtain ⟨y732, hy732⟩ : ∃ y_ : List (S62), y_ = (y722.set (x7_3 : Int).toNat (⟨t727, t728, t729⟩ : S62)) := ⟨_, rfl⟩
                                  replace H : (spec_FirstFit.l0 k3 l1 y732 (wrap64 (x6_2 + 1)) a0_0 a0_1) = some r := by first | (rw [hy732]; with_reducible exact H) | (have H2_ := (Option.bind_some _ _).symm.trans H; rw [hy732]; with_reducible exact H2_) | (have H2_ := (Option.bind_some _ _).symm.trans H; with_reducible exact H2_) | with_reducible exact H | (rw [hy732]; exact H) | exact H
                                  have Ny732 := Aside0.mk hy732
                                  clear hy732
                                  have H' := Aside0.mk H
                                  clear H
                                  try go_wp2
                                  have n0_ := Aside0.mk (Kd.N_drew HO_5.out)
                                  have n1_ := Aside0.mk (blk_drew BK713.out)
                                  have n2_ := Aside0.mk (below_drew1 HB.out)
                                  clear HO_5
                                  clear BK713
                                  clear HB
                                  have HO_5 := n0_
                                  have BK713 := n1_
                                  have HB := n2_
                                  clear n0_ n1_ n2_
                                  obtain ⟨Ao28, co28, eo28⟩ := Kd.N_slice HO_5.out
                                  (first | subst eo28 | (injection eo28 with f1_ f2_ f3_; have f4_ := f1_.symm; have f5_ := f3_.symm; clear f1_ f2_ f3_; subst f4_; subst f5_))
                                  have p719 : 0 ≤ (x7_3 : Int) := of_decide_eq_true zf44_1
                                  have q719 : x7_3 < (x5_2.length : Int) := of_decide_eq_true zf44_1
                                  obtain ⟨ad719, A719_2, c719_2, e719, hx719_0, hx719_1, hx719_2, hl719_2, hi719_2⟩ := at_T62 (Kd.N_reads' HO_5.out).2.2 x7_3 p719 q719
                                  cases e719
                                  obtain ⟨ce719, hce719, hMe719, hcc719⟩ := Kd.N_get HO_5.out z62 x7_3 p719 zf44_15
                                  obtain ⟨ua719_2, uc719_2, rfl, ul719_2, ge719_2⟩ := k62_openF hMe719
                                  have hv719_2 := hcc719 2 _ rfl
                                  rw [add_field _ _ 2 (by omega)] at hv719_2
                                  replace hv719_2 := Option.some.inj (hv719_2.symm.trans hx719_2)
                                  injection hv719_2 with hva_ hvn_ hvc_
                                  rw [hva_] at ge719_2
                                  rw [hvc_] at ul719_2
                                  have HL719_2 := Aside0.mk (show Kd.V (Kd.int .i64) 3 _ w.heap.size _ _ ((rd_T62 x5_2 x7_3).f2) from Kd.V_mk ul719_2 ge719_2)
                                  clear hva_ hvn_ hvc_ ge719_2 ul719_2
                                  clear hcc719 hce719
                                  have HR719_2 := Aside0.mk hi719_2
                                  have HC719_2 := Aside0.mk hl719_2
                                  clear hi719_2 hl719_2
                                  replace p719 := eq_true p719
                                  replace q719 := eq_true q719
                                  have p720 : 0 ≤ (x6_2 : Int) := of_decide_eq_true zf44_1
                                  have q720 : x6_2 < (l1.length : Int) := of_decide_eq_true zf44_1
                                  obtain ⟨ad720, e720, hx720_0, hx720_1, hx720_2⟩ := at_T80 HR1.out x6_2 p720 q720
                                  have hw720_2 := hx720_2
                                  have hw720_1 := hx720_1
                                  have hw720_0 := hx720_0
                                  cases e720
                                  replace hx720_0 := (HB.out.cell (World.block_lt_of_cell? w _ hx720_0)).trans hx720_0
                                  replace hx720_1 := (HB.out.cell (World.block_lt_of_cell? w _ hx720_1)).trans hx720_1
                                  replace hx720_2 := (HB.out.cell (World.block_lt_of_cell? w _ hx720_2)).trans hx720_2
                                  replace p720 := eq_true p720
                                  replace q720 := eq_true q720
                                  refine start_ (n := 17) (S := fun w' => w'.cell? ⟨gb713, 0, none⟩ = some (.int .i64 a0_0) ∧ w'.cell? ⟨gb713, 1, none⟩ = some (.int .i64 a0_1) ∧ w'.cell? (ad719.add ((x7_3).toNat * 3)) = some (.int .i64 ((rd_T62 x5_2 x7_3).f0)) ∧ w'.cell? ⟨(ad719.add ((x7_3).toNat * 3)).block, (ad719.add ((x7_3).toNat * 3)).off + 1, none⟩ = some (.int .i64 ((rd_T62 x5_2 x7_3).f1)) ∧ w'.cell? ⟨(ad719.add ((x7_3).toNat * 3)).block, (ad719.add ((x7_3).toNat * 3)).off + 2, none⟩ = some (.slice A719_2 ((rd_T62 x5_2 x7_3).f2).length c719_2) ∧ w'.cell? (ad720.add ((x6_2).toNat * 3)) = some (.int .i64 ((rd_T80 l1 x6_2).f0)) ∧ w'.cell? ⟨(ad720.add ((x6_2).toNat * 3)).block, (ad720.add ((x6_2).toNat * 3)).off + 1, none⟩ = some (.int .i64 ((rd_T80 l1 x6_2).f1)) ∧ w'.cell? ⟨(ad720.add ((x6_2).toNat * 3)).block, (ad720.add ((x6_2).toNat * 3)).off + 2, none⟩ = some (.int .i64 ((rd_T80 l1 x6_2).f2))) (ds := []) #[false, false, false, false, false, false, false, false, false, false, false, false, false, false, false, false, false] (by kernel_rfl) rfl rfl ⟨(blk_cell BK713.out 0).trans rfl, (blk_cell BK713.out 1).trans rfl, hx719_0, hx719_1, hx719_2, ((HB.out.cell (World.block_lt_of_cell? w _ hw720_0)).trans hw720_0), ((HB.out.cell (World.block_lt_of_cell? w _ hw720_1)).trans hw720_1), ((HB.out.cell (World.block_lt_of_cell? w _ hw720_2)).trans hw720_2)⟩ (fun hHeld => ?_); refine with_tabW spec_FirstFit.tab8 spec_FirstFit.bits8 (fun HT_ HW_ => ?_)
                                  generalize wr.drew = w27 at HO_5 BK713 HB HL719_2 HR719_2 hx719_0 hx719_1 hx719_2 hx720_0 hx720_1 hx720_2 hHeld ⊢
                                  refine pS 0 24 ?_
                                  refine pS 1 25 ?_
                                  refine pS 2 26 ?_
                                  refine pS 3 27 ?_
                                  refine pS 4 28 ?_
                                  refine pS 6 30 ?_
                                  refine pS 7 31 ?_
                                  refine pS 8 32 ?_
                                  refine pS 10 34 ?_
                                  refine pS 11 35 ?_
                                  refine pS 12 36 ?_
                                  refine tS 5 29 ?_
                                  refine tS 9 33 ?_
                                  refine tS 13 37 ?_
                                  refine one_ (i := 14) (N := some 38) #[true, true, true, true, true, true, true, true, true, true, true, true, true, true, true, false, false] rfl rfl (one_of HT_.out (by kernel_rfl)) (by decide) (fun K hK => ?_)
                                  refine goes_ Try.func79 (by kernel_rfl) rfl #[.agg #[.int .i64 a0_0, .int .i64 a0_1], .agg #[.int .i64 ((rd_T62 x5_2 x7_3).f0), .int .i64 ((rd_T62 x5_2 x7_3).f1), .slice A719_2 ((rd_T62 x5_2 x7_3).f2).length c719_2], .agg #[.int .i64 ((rd_T80 l1 x6_2).f0), .int .i64 ((rd_T80 l1 x6_2).f1), .int .i64 ((rd_T80 l1 x6_2).f2)]] (by rfl) rfl rfl zf44_4 ?_
                                  with_reducible refine (spec_l07Takes.calls a0_0 a0_1 ((rd_T62 x5_2 x7_3).f0) ((rd_T62 x5_2 x7_3).f1) _ _ ((rd_T62 x5_2 x7_3).f2) ((rd_T80 l1 x6_2).f0) ((rd_T80 l1 x6_2).f1) ((rd_T80 l1 x6_2).f2) true _ ?side1 ?side2 A20.out).mono ?_
                                  (case side1 => repeat (first | exact zf44_3 | (with_reducible refine Kd.C_alloc ?_ _) | (with_reducible refine Kd.C_drewN ?_ _) | (with_reducible refine Kd.C_drew ?_)))
                                  (case side2 => exact HC719_2.out)
                                  rintro e w29 ⟨rfl, hb⟩
                                  have HS2_ := (hb.cell (World.block_lt_of_cell? _ _ (hHeld.2.2.1))).trans (hHeld.2.2.1)
                                  have HS3_ := (hb.cell (World.block_lt_of_cell? _ _ (hHeld.2.2.2.1))).trans (hHeld.2.2.2.1)
                                  have HS4_ := (hb.cell (World.block_lt_of_cell? _ _ (hHeld.2.2.2.2.1))).trans (hHeld.2.2.2.2.1)
                                  refine ⟨_, rfl, ?_⟩
                                  have n0_ := Aside0.mk (Kd.N_below zf44_6 hb)
                                  have n1_ := Aside0.mk (Kd.V_below zf44_5 hb)
                                  have n2_ := Aside0.mk (blk_below (g := gb713) (o := .cells #[.int .i64 a0_0, .int .i64 a0_1] 49 (0, 0)) zf44_2 hb)
                                  have n3_ := Aside0.mk (Kd.C_below zf44_3 hb)
                                  have n4_ := Aside0.mk (below_step zf44_0 hb)
                                  clear HO_5
                                  clear HL719_2
                                  clear BK713
                                  clear HR719_2
                                  clear HB
                                  have HO_5 := n0_
                                  have HL719_2 := n1_
                                  have BK713 := n2_
                                  have HR719_2 := n3_
                                  have HB := n4_
                                  clear n0_ n1_ n2_ n3_ n4_
                                  (try clear hb)
                                  (try clear hb2)
                                  (try clear hk)
                                  (try clear hi)
                                  refine hK.out _ _ ⟨(blk_cell BK713.out 0).trans rfl, (blk_cell BK713.out 1).trans rfl, HS2_, HS3_, HS4_, ((HB.out.cell (World.block_lt_of_cell? w _ hw720_0)).trans hw720_0), ((HB.out.cell (World.block_lt_of_cell? w _ hw720_1)).trans hw720_1), ((HB.out.cell (World.block_lt_of_cell? w _ hw720_2)).trans hw720_2)⟩ (fun hHeld => ?_)
                                  clear hK K
                                  refine norm_ (a' := ?_) ?_ ?_
                                  rotate_left
                                  · show Act.put _ (some 38) _ = _
                                    simp only [Act.put, List.setIfInBounds_toArray, List.set_cons_zero, List.set_cons_succ, i64_w, i32_w]
                                    rfl
                                  refine pS 15 39 ?_
                                  refine pS 16 40 ?_
                                  refine done_ (done_of HT_.out (by kernel_rfl)) ?_
                                  try go_wp2_with ((with_reducible refine gate_builtin (b := .append) (xs := #[.tmp 47, .tmp 49]) rfl ?_); at_builtin; refine Kd.N_append k62 (w0 := w) w.heap.size rfl (.tmp 47) (.tmp 49) 52 62 (.agg #[(.int .i64 0), (.int .i64 0), (.slice none 0 0)]) 40 rfl Try.underlying52 info62 rfl (by decide) (by omega) (.slice (some ad719) x5_2.length co28) x5_2 (⟨0, 0, ([] : List Int)⟩ : S62) [.int .i64 0, .int .i64 0, .slice none 0 0] (fun k_ => (w.heap.size ≤ k_) ∧ k_ ≠ gb713) (fun k_ => ((fun k_ => (w.heap.size ≤ k_) ∧ k_ ≠ gb713)) k_ ∧ some k_ ≠ (.slice (some ad719) x5_2.length co28 : Value).ownBlock) rfl rfl ?aP (fun _ hk => hk) ?aF ?aO ?aB ?aS ?aL ?_; (case aP => exact (k62_mkF _ _ (⟨0, 0, ([] : List Int)⟩ : S62) (Nat.le_refl _) (Kd.F_nil _ _ _))); (case aB => exact zf44_0); (case aF => exact (fun k_ hk => ⟨(Nat.le_trans (below_size zf44_0) hk), Kd.freshB (g := gb713) (o := .cells #[.int .i64 a0_0, .int .i64 a0_1] 49 (0, 0)) zf44_2 k_ hk⟩)); (case aO => exact zf44_6); (case aS => exact (below_size zf44_0)); (case aL => have := LMc23.out; omega); intro v723 w30 ho hb hg hat; rw [← Ny722.out] at ho; have n0_ := Aside0.mk (blk_grown (g := gb713) (o := .cells #[.int .i64 a0_0, .int .i64 a0_1] 49 (0, 0)) zf44_2 hg (Kd.N_ne HO_5.out BK713.out (by decide))); have n1_ := Aside0.mk (Kd.V_afterv (ok := (fun k_ => (w.heap.size ≤ k_) ∧ k_ ≠ gb713)) zf44_5 hg hat); have n2_ := Aside0.mk (hb); have n3_ := Aside0.mk (ho); clear BK713; clear HL719_2; clear HB; clear HO_5; have BK713 := n0_; have HL719_2 := n1_; have HB := n2_; have HO724 := n3_; clear n0_ n1_ n2_ n3_; clear ho hb hg hat)
                                  have n0_ := Aside0.mk (Kd.V_drew HL719_2.out)
                                  have n1_ := Aside0.mk (Kd.N_drew HO724.out)
                                  have n2_ := Aside0.mk (blk_drew BK713.out)
                                  have n3_ := Aside0.mk (below_drew1 HB.out)
                                  clear HL719_2
                                  clear HO724
                                  clear BK713
                                  clear HB
                                  have HL719_2 := n0_
                                  have HO724 := n1_
                                  have BK713 := n2_
                                  have HB := n3_
                                  clear n0_ n1_ n2_ n3_
                                  obtain ⟨Ao32, co32, eo32⟩ := Kd.N_slice HO724.out
                                  (first | subst eo32 | (injection eo32 with f1_ f2_ f3_; have f4_ := f1_.symm; have f5_ := f3_.symm; clear f1_ f2_ f3_; subst f4_; subst f5_))
                                  have p725 : 0 ≤ (x7_3 : Int) := of_decide_eq_true zf44_1
                                  have q725 : x7_3 < (y722.length : Int) := of_decide_eq_true zf44_1
                                  obtain ⟨ad725, A725_2, c725_2, e725, hx725_0, hx725_1, hx725_2, hl725_2, hi725_2⟩ := at_T62 (Kd.N_reads' HO724.out).2.2 x7_3 p725 q725
                                  cases e725
                                  obtain ⟨ce725, hce725, hMe725, hcc725⟩ := Kd.N_get HO724.out z62 x7_3 p725 (by first | exact q725 | exact of_decide_eq_true zf44_1 | (have e_ := (Kd.N_reads' HO724.out).1; omega))
                                  obtain ⟨ua725_2, uc725_2, rfl, ul725_2, ge725_2⟩ := k62_openF hMe725
                                  have hv725_2 := hcc725 2 _ rfl
                                  rw [add_field _ _ 2 (by omega)] at hv725_2
                                  replace hv725_2 := Option.some.inj (hv725_2.symm.trans hx725_2)
                                  injection hv725_2 with hva_ hvn_ hvc_
                                  rw [hva_] at ge725_2
                                  rw [hvc_] at ul725_2
                                  have HL725_2 := Aside0.mk (show Kd.V (Kd.int .i64) 3 _ w.heap.size _ _ ((rd_T62 y722 x7_3).f2) from Kd.V_mk ul725_2 ge725_2)
                                  clear hva_ hvn_ hvc_ ge725_2 ul725_2
                                  clear hcc725 hce725
                                  have HR725_2 := Aside0.mk hi725_2
                                  have HC725_2 := Aside0.mk hl725_2
                                  clear hi725_2 hl725_2
                                  replace p725 := eq_true p725
                                  replace q725 := eq_true q725
                                  have p726 : 0 ≤ (x6_2 : Int) := of_decide_eq_true zf44_1
                                  have q726 : x6_2 < (l1.length : Int) := of_decide_eq_true zf44_1
                                  obtain ⟨ad726, e726, hx726_0, hx726_1, hx726_2⟩ := at_T80 HR1.out x6_2 p726 q726
                                  have hw726_2 := hx726_2
                                  have hw726_1 := hx726_1
                                  have hw726_0 := hx726_0
                                  obtain rfl : ad720 = ad726 := (by injection e726)
                                  replace hx726_0 := (HB.out.cell (World.block_lt_of_cell? w _ hx726_0)).trans hx726_0
                                  replace hx726_1 := (HB.out.cell (World.block_lt_of_cell? w _ hx726_1)).trans hx726_1
                                  replace hx726_2 := (HB.out.cell (World.block_lt_of_cell? w _ hx726_2)).trans hx726_2
                                  replace p726 := eq_true p726
                                  replace q726 := eq_true q726
                                  refine start_ (n := 13) (S := fun w' => w'.cell? (ad725.add ((x7_3).toNat * 3)) = some (.int .i64 ((rd_T62 y722 x7_3).f0)) ∧ w'.cell? ⟨(ad725.add ((x7_3).toNat * 3)).block, (ad725.add ((x7_3).toNat * 3)).off + 1, none⟩ = some (.int .i64 ((rd_T62 y722 x7_3).f1)) ∧ w'.cell? ⟨(ad725.add ((x7_3).toNat * 3)).block, (ad725.add ((x7_3).toNat * 3)).off + 2, none⟩ = some (.slice A725_2 ((rd_T62 y722 x7_3).f2).length c725_2) ∧ w'.cell? (ad720.add ((x6_2).toNat * 3)) = some (.int .i64 ((rd_T80 l1 x6_2).f0)) ∧ w'.cell? ⟨(ad720.add ((x6_2).toNat * 3)).block, (ad720.add ((x6_2).toNat * 3)).off + 1, none⟩ = some (.int .i64 ((rd_T80 l1 x6_2).f1)) ∧ w'.cell? ⟨(ad720.add ((x6_2).toNat * 3)).block, (ad720.add ((x6_2).toNat * 3)).off + 2, none⟩ = some (.int .i64 ((rd_T80 l1 x6_2).f2))) (ds := [12]) #[false, false, false, false, false, false, false, false, false, false, false, false, false] (by kernel_rfl) rfl rfl ⟨hx725_0, hx725_1, hx725_2, ((HB.out.cell (World.block_lt_of_cell? w _ hw726_0)).trans hw726_0), ((HB.out.cell (World.block_lt_of_cell? w _ hw726_1)).trans hw726_1), ((HB.out.cell (World.block_lt_of_cell? w _ hw726_2)).trans hw726_2)⟩ (fun hHeld => ?_); refine with_tabW spec_FirstFit.tab12 spec_FirstFit.bits12 (fun HT_ HW_ => ?_)
                                  generalize w30.drew = w31 at HL719_2 HO724 BK713 HB HL725_2 HR725_2 hx725_0 hx725_1 hx725_2 hx726_0 hx726_1 hx726_2 hHeld ⊢
                                  refine pS 0 51 ?_
                                  refine pS 1 52 ?_
                                  refine pS 2 53 ?_
                                  refine pS 3 54 ?_
                                  refine pS 4 55 ?_
                                  refine pS 6 57 ?_
                                  refine pS 7 58 ?_
                                  refine pS 8 59 ?_
                                  refine tS 5 56 ?_
                                  refine tS 9 60 ?_
                                  refine one_ (i := 10) (N := some 61) #[true, true, true, true, true, true, true, true, true, true, true, false, false] rfl rfl (one_of HT_.out (by kernel_rfl)) (by decide) (fun K hK => ?_)
                                  refine goes_ Try.func80 (by kernel_rfl) rfl #[.agg #[.int .i64 ((rd_T62 y722 x7_3).f0), .int .i64 ((rd_T62 y722 x7_3).f1), .slice A725_2 ((rd_T62 y722 x7_3).f2).length c725_2], .agg #[.int .i64 ((rd_T80 l1 x6_2).f0), .int .i64 ((rd_T80 l1 x6_2).f1), .int .i64 ((rd_T80 l1 x6_2).f2)]] (by rfl) rfl rfl zf44_4 ?_
                                  with_reducible refine (spec_l07With.calls ((rd_T62 y722 x7_3).f0) ((rd_T62 y722 x7_3).f1) _ _ ((rd_T62 y722 x7_3).f2) ((rd_T80 l1 x6_2).f0) ((rd_T80 l1 x6_2).f1) ((rd_T80 l1 x6_2).f2) t727 t728 t729 _ ?side1 ?side2 A25.out).mono ?_
                                  (case side1 => repeat (first | exact zf44_12 | (with_reducible refine Kd.C_alloc ?_ _) | (with_reducible refine Kd.C_drewN ?_ _) | (with_reducible refine Kd.C_drew ?_)))
                                  (case side2 => exact HC725_2.out)
                                  rintro e w33 ⟨v730, rfl, ho0, hb⟩
                                  have HS0_ := (hb.cell (World.block_lt_of_cell? _ _ (hHeld.1))).trans (hHeld.1)
                                  have HS1_ := (hb.cell (World.block_lt_of_cell? _ _ (hHeld.2.1))).trans (hHeld.2.1)
                                  have HS2_ := (hb.cell (World.block_lt_of_cell? _ _ (hHeld.2.2.1))).trans (hHeld.2.2.1)
                                  refine ⟨_, rfl, ?_⟩
                                  have n0_ := Aside0.mk (Kd.V_elder' zf44_5 (Kd.R_base ho0) hb)
                                  have n1_ := Aside0.mk (Kd.N_elder' (by (with_reducible repeat (first | apply Kd.N_alloc | apply Kd.N_drewN | apply Kd.N_drew)); exact HO724.out) (Kd.R_base ho0) hb)
                                  have n2_ := Aside0.mk (Kd.V_elder' (by (with_reducible repeat (first | apply Kd.V_alloc | apply Kd.V_drewN | apply Kd.V_drew)); exact HL725_2.out) (Kd.R_base ho0) hb)
                                  have n3_ := Aside0.mk (Kd.R_lower (Kd.R_newM (M := fun k_ => (w.heap.size ≤ k_)) ho0 (below_size zf44_0) (fun k_ h_ => h_)) (below_size zf44_0))
                                  have n4_ := Aside0.mk (blk_below (g := gb713) (o := .cells #[.int .i64 a0_0, .int .i64 a0_1] 49 (0, 0)) zf44_2 hb)
                                  have n5_ := Aside0.mk (Kd.C_below zf44_12 hb)
                                  have n6_ := Aside0.mk (below_step zf44_0 hb)
                                  clear HL719_2
                                  clear HO724
                                  clear HL725_2
                                  clear BK713
                                  clear HR725_2
                                  clear HB
                                  have HL719_2 := n0_
                                  have HO724 := n1_
                                  have HL725_2 := n2_
                                  have HO731 := n3_
                                  have BK713 := n4_
                                  have HR725_2 := n5_
                                  have HB := n6_
                                  clear n0_ n1_ n2_ n3_ n4_ n5_ n6_
                                  (try clear hb)
                                  (try clear hb2)
                                  (try clear hk)
                                  (try clear hi)
                                  (try clear ho0)
                                  have p26 : 0 ≤ (x7_3 : Int) := of_decide_eq_true zf44_1
                                  have q26 : (x7_3 : Int) < ((y722.length : Int) : Int) := of_decide_eq_true zf44_1
                                  obtain ⟨go26, co26, eo26, gb26, gl26, cl26, HG26⟩ := Kd.N_form HO724.out (by omega)
                                  (first | cases eo26 | (injection eo26 with ea_ en_ ec_; (first | subst ea_ | (injection ea_ with ea_; subst ea_)); subst ec_; clear en_))
                                  have GB26 := Aside0.mk gb26
                                  have GG26 := Aside0.mk HG26
                                  clear gb26 gl26 HG26
                                  (first | simp only [add_plain] at hx725_0 | skip)
                                  (first | simp only [add_plain] at hx725_1 | skip)
                                  (first | simp only [add_plain] at hx725_2 | skip)
                                  obtain ⟨ce26, hcl26, hM26, hcc26, hfr26⟩ := Kd.N_elem HO724.out z62 (x7_3 : Int) p26 q26
                                  obtain ⟨ua26_2, uc26_2, rfl, ul26_2, ge26_2⟩ := k62_openF hM26
                                  have hx26_0 : World.cell? _ ⟨go26, (x7_3 : Int).toNat * 3, none⟩ = some (.int .i64 ((rd_T62 y722 x7_3).f0)) := hcc26 0 _ rfl
                                  have hx26_1 : World.cell? _ ⟨go26, (x7_3 : Int).toNat * 3 + 1, none⟩ = some (.int .i64 ((rd_T62 y722 x7_3).f1)) := hcc26 1 _ rfl
                                  have hx26_2 : World.cell? _ ⟨go26, (x7_3 : Int).toNat * 3 + 2, none⟩ = some (.slice ua26_2 ((rd_T62 y722 x7_3).f2).length uc26_2) := hcc26 2 _ rfl
                                  have hf26_0 : World.frozen? _ ⟨go26, (x7_3 : Int).toNat * 3, none⟩ = false := hfr26 0
                                  have hf26_1 : World.frozen? _ ⟨go26, (x7_3 : Int).toNat * 3 + 1, none⟩ = false := hfr26 1
                                  have hf26_2 : World.frozen? _ ⟨go26, (x7_3 : Int).toNat * 3 + 2, none⟩ = false := hfr26 2
                                  clear hcl26 hcc26 hfr26 hM26
                                  replace p26 := eq_true p26
                                  replace q26 := eq_true q26
                                  obtain ⟨Ao730, co730, eo730⟩ := Kd.R_slice HO731.out
                                  subst eo730
                                  have HX34 := Aside0.mk (show Kd.N k62 62 _ w.heap.size (fun k_ => (w.heap.size ≤ k_) ∧ some k_ ≠ ((.slice Ao730 t729.length co730) : Value).ownBlock ∧ k_ ≠ gb713) (.slice (some ⟨go26, 0, none⟩) y722.length co32) y722 from (Kd.N_mono (HO724.out) (fun k_ hk => ⟨hk.1.1, ⟨hk.2, hk.1.2⟩⟩)))
                                  replace HX34 := Aside0.mk (show Kd.N k62 62 _ w.heap.size (fun k_ => (w.heap.size ≤ k_) ∧ k_ ≠ gb713) (.slice (some ⟨go26, 0, none⟩) y722.length co32) y722 from Kd.N_mono HX34.out (fun k_ hk => ⟨hk.1, hk.2.2⟩))
                                  obtain ⟨ce34, hcl34, hM34, hcc34, hfr34⟩ := Kd.N_elem HX34.out z62 (x7_3 : Int) (of_decide_eq_true zf44_1) zf44_16
                                  obtain ⟨ua34_2, uc34_2, rfl, ul34_2, ge34_2⟩ := k62_openF hM34
                                  have HP34 := (Kd.N_seg HX34.out (x7_3 : Int) (of_decide_eq_true zf44_1) zf44_16 (seg := [.int .i64 t727, .int .i64 t728, (.slice Ao730 t729.length co730)]) (j := 0) hcl34 hcc34 (show 3 ≤ 3 from by decide) (x' := (⟨t727, t728, t729⟩ : S62)) (k62_mkF _ _ (⟨t727, t728, t729⟩ : S62) (Kd.R_reads' (Kd.R_mono (ok' := (fun k_ => ((fun k_ => (w.heap.size ≤ k_) ∧ k_ ≠ gb713)) k_ ∧ k_ ≠ go26)) (Kd.R_types (Kd.R_apart' (HO731.out) (Kd.N_typed HO724.out) (by decide)) BK713.out (by decide)) (fun k_ hk => ⟨⟨hk.1.1.1, hk.2⟩, fun e_ => (hk.1.2) (by rw [e_]; rfl)⟩))).2.1 (Kd.R_F (Kd.R_mono (ok' := (fun k_ => ((fun k_ => (w.heap.size ≤ k_) ∧ k_ ≠ gb713)) k_ ∧ k_ ≠ go26)) (Kd.R_types (Kd.R_apart' (HO731.out) (Kd.N_typed HO724.out) (by decide)) BK713.out (by decide)) (fun k_ hk => ⟨⟨hk.1.1.1, hk.2⟩, fun e_ => (hk.1.2) (by rw [e_]; rfl)⟩)))) (fun _ hk => hk)).1
                                  rw [← Ny732.out] at HP34
                                  have HQ34 := Aside0.mk HP34
                                  clear hcl34 hcc34 hfr34 hM34 HP34
                                  refine hK.out _ _ ⟨HS0_, HS1_, HS2_, ((HB.out.cell (World.block_lt_of_cell? w _ hw726_0)).trans hw726_0), ((HB.out.cell (World.block_lt_of_cell? w _ hw726_1)).trans hw726_1), ((HB.out.cell (World.block_lt_of_cell? w _ hw726_2)).trans hw726_2)⟩ (fun hHeld => ?_)
                                  clear hK K
                                  refine norm_ (a' := ?_) ?_ ?_
                                  rotate_left
                                  · show Act.put _ (some 61) _ = _
                                    simp only [Act.put, List.setIfInBounds_toArray, List.set_cons_zero, List.set_cons_succ, i64_w, i32_w]
                                    rfl
                                  refine pS 11 62 ?_
                                  refine last_ (i := 12) (N := none) #[true, true, true, true, true, true, true, true, true, true, true, true, true] rfl rfl (one_of HT_.out (by kernel_rfl)) (by decide) (fun K hK => ?_)
                                  refine skip_ (w1 := ?_) (by rfl) rfl ?_ ?_
                                  rotate_left
                                  · go_simp
                                    rfl
                                  refine hK.out _ _ ?_
                                  clear hK K
                                  refine done_ (done_of HT_.out (by kernel_rfl)) ?_
                                  try go_wp2
                                  go_roundg k3
                                  case measure => have := HJ2.out; have := HK2.out; have := HK3.out; omega
                                  case rel => exact ⟨(y732), (wrap64 (x6_2 + 1)), zf44_7, H', ⟨by have := HJ2.out; have := HK2.out; have := HK3.out; omega⟩, ⟨by (with_reducible repeat (first | apply Kd.N_alloc | apply Kd.N_drewN | apply Kd.N_drew)); exact HQ34.out⟩, ⟨by (with_reducible repeat (first | refine blk_drewN ?_ _ | refine blk_drew ?_ | refine blk_alloc ?_ _)); refine blk_far ?_ zf44_8 _; (with_reducible repeat (first | refine blk_drewN ?_ _ | refine blk_drew ?_ | refine blk_alloc ?_ _)); refine blk_far ?_ zf44_8 _; (with_reducible repeat (first | refine blk_drewN ?_ _ | refine blk_drew ?_ | refine blk_alloc ?_ _)); refine blk_far ?_ zf44_8 _; (with_reducible repeat (first | refine blk_drewN ?_ _ | refine blk_drew ?_ | refine blk_alloc ?_ _)); exact BK713.out⟩, ⟨by repeat (first | (with_reducible first | exact HB.out | apply below_alloc | apply pw_below_drewN | apply below_drew1 | refine below_set ?_ GB26.out | refine below_set ?_ GB26.out | refine below_set ?_ GB26.out | refine below_set ?_ GE713.out) | exact HB.out)⟩⟩
                                · rw [if_neg c24] at H
                                  exact absurd H (by simp)
                              · rw [if_neg c23] at H
                                exact absurd H (by simp)
                            · rw [if_neg c22] at H
                              have c22b0 : (x7_3 == (x5_2.length : Int)) = false := beq_eq_false_iff_ne.mpr c22
                              have c22b1 : (x7_3 != (x5_2.length : Int)) = true := bne_iff_ne.mpr c22
                              replace H := Option.bind_eq_some_iff.mp H
                              obtain ⟨⟨t735, t736, t737⟩, A350, H⟩ := H
                              replace H : (spec_FirstFit.l0 k3 l1 (x5_2.set (x7_3 : Int).toNat (⟨t735, t736, t737⟩ : S62)) (wrap64 (x6_2 + 1)) a0_0 a0_1) = some r := H
                              have A35 := Aside0.mk A350
                              clear A350
                              obtain ⟨y740, hy740⟩ : ∃ y_ : List (S62), y_ = (x5_2.set (x7_3 : Int).toNat (⟨t735, t736, t737⟩ : S62)) := ⟨_, rfl⟩
                              replace H : (spec_FirstFit.l0 k3 l1 y740 (wrap64 (x6_2 + 1)) a0_0 a0_1) = some r := by first | (rw [hy740]; with_reducible exact H) | (have H2_ := (Option.bind_some _ _).symm.trans H; rw [hy740]; with_reducible exact H2_) | (have H2_ := (Option.bind_some _ _).symm.trans H; with_reducible exact H2_) | with_reducible exact H | (rw [hy740]; exact H) | exact H
                              have Ny740 := Aside0.mk hy740
                              clear hy740
                              have H' := Aside0.mk H
                              clear H
                              try go_wp2
                              have n0_ := Aside0.mk (Kd.N_drew HO_5.out)
                              have n1_ := Aside0.mk (blk_drew BK713.out)
                              have n2_ := Aside0.mk (below_drew1 HB.out)
                              clear HO_5
                              clear BK713
                              clear HB
                              have HO_5 := n0_
                              have BK713 := n1_
                              have HB := n2_
                              clear n0_ n1_ n2_
                              obtain ⟨Ao38, co38, eo38⟩ := Kd.N_slice HO_5.out
                              (first | subst eo38 | (injection eo38 with f1_ f2_ f3_; have f4_ := f1_.symm; have f5_ := f3_.symm; clear f1_ f2_ f3_; subst f4_; subst f5_))
                              have p719 : 0 ≤ (x7_3 : Int) := of_decide_eq_true zf44_1
                              have q719 : x7_3 < (x5_2.length : Int) := of_decide_eq_true zf44_1
                              obtain ⟨ad719, A719_2, c719_2, e719, hx719_0, hx719_1, hx719_2, hl719_2, hi719_2⟩ := at_T62 (Kd.N_reads' HO_5.out).2.2 x7_3 p719 q719
                              cases e719
                              obtain ⟨ce719, hce719, hMe719, hcc719⟩ := Kd.N_get HO_5.out z62 x7_3 p719 zf44_15
                              obtain ⟨ua719_2, uc719_2, rfl, ul719_2, ge719_2⟩ := k62_openF hMe719
                              have hv719_2 := hcc719 2 _ rfl
                              rw [add_field _ _ 2 (by omega)] at hv719_2
                              replace hv719_2 := Option.some.inj (hv719_2.symm.trans hx719_2)
                              injection hv719_2 with hva_ hvn_ hvc_
                              rw [hva_] at ge719_2
                              rw [hvc_] at ul719_2
                              have HL719_2 := Aside0.mk (show Kd.V (Kd.int .i64) 3 _ w.heap.size _ _ ((rd_T62 x5_2 x7_3).f2) from Kd.V_mk ul719_2 ge719_2)
                              clear hva_ hvn_ hvc_ ge719_2 ul719_2
                              clear hcc719 hce719
                              have HR719_2 := Aside0.mk hi719_2
                              have HC719_2 := Aside0.mk hl719_2
                              clear hi719_2 hl719_2
                              replace p719 := eq_true p719
                              replace q719 := eq_true q719
                              have p720 : 0 ≤ (x6_2 : Int) := of_decide_eq_true zf44_1
                              have q720 : x6_2 < (l1.length : Int) := of_decide_eq_true zf44_1
                              obtain ⟨ad720, e720, hx720_0, hx720_1, hx720_2⟩ := at_T80 HR1.out x6_2 p720 q720
                              have hw720_2 := hx720_2
                              have hw720_1 := hx720_1
                              have hw720_0 := hx720_0
                              cases e720
                              replace hx720_0 := (HB.out.cell (World.block_lt_of_cell? w _ hx720_0)).trans hx720_0
                              replace hx720_1 := (HB.out.cell (World.block_lt_of_cell? w _ hx720_1)).trans hx720_1
                              replace hx720_2 := (HB.out.cell (World.block_lt_of_cell? w _ hx720_2)).trans hx720_2
                              replace p720 := eq_true p720
                              replace q720 := eq_true q720
                              refine start_ (n := 17) (S := fun w' => w'.cell? ⟨gb713, 0, none⟩ = some (.int .i64 a0_0) ∧ w'.cell? ⟨gb713, 1, none⟩ = some (.int .i64 a0_1) ∧ w'.cell? (ad719.add ((x7_3).toNat * 3)) = some (.int .i64 ((rd_T62 x5_2 x7_3).f0)) ∧ w'.cell? ⟨(ad719.add ((x7_3).toNat * 3)).block, (ad719.add ((x7_3).toNat * 3)).off + 1, none⟩ = some (.int .i64 ((rd_T62 x5_2 x7_3).f1)) ∧ w'.cell? ⟨(ad719.add ((x7_3).toNat * 3)).block, (ad719.add ((x7_3).toNat * 3)).off + 2, none⟩ = some (.slice A719_2 ((rd_T62 x5_2 x7_3).f2).length c719_2) ∧ w'.cell? (ad720.add ((x6_2).toNat * 3)) = some (.int .i64 ((rd_T80 l1 x6_2).f0)) ∧ w'.cell? ⟨(ad720.add ((x6_2).toNat * 3)).block, (ad720.add ((x6_2).toNat * 3)).off + 1, none⟩ = some (.int .i64 ((rd_T80 l1 x6_2).f1)) ∧ w'.cell? ⟨(ad720.add ((x6_2).toNat * 3)).block, (ad720.add ((x6_2).toNat * 3)).off + 2, none⟩ = some (.int .i64 ((rd_T80 l1 x6_2).f2))) (ds := []) #[false, false, false, false, false, false, false, false, false, false, false, false, false, false, false, false, false] (by kernel_rfl) rfl rfl ⟨(blk_cell BK713.out 0).trans rfl, (blk_cell BK713.out 1).trans rfl, hx719_0, hx719_1, hx719_2, ((HB.out.cell (World.block_lt_of_cell? w _ hw720_0)).trans hw720_0), ((HB.out.cell (World.block_lt_of_cell? w _ hw720_1)).trans hw720_1), ((HB.out.cell (World.block_lt_of_cell? w _ hw720_2)).trans hw720_2)⟩ (fun hHeld => ?_); refine with_tabW spec_FirstFit.tab8 spec_FirstFit.bits8 (fun HT_ HW_ => ?_)
                              generalize wr.drew = w37 at HO_5 BK713 HB HL719_2 HR719_2 hx719_0 hx719_1 hx719_2 hx720_0 hx720_1 hx720_2 hHeld ⊢
                              refine pS 0 24 ?_
                              refine pS 1 25 ?_
                              refine pS 2 26 ?_
                              refine pS 3 27 ?_
                              refine pS 4 28 ?_
                              refine pS 6 30 ?_
                              refine pS 7 31 ?_
                              refine pS 8 32 ?_
                              refine pS 10 34 ?_
                              refine pS 11 35 ?_
                              refine pS 12 36 ?_
                              refine tS 5 29 ?_
                              refine tS 9 33 ?_
                              refine tS 13 37 ?_
                              refine one_ (i := 14) (N := some 38) #[true, true, true, true, true, true, true, true, true, true, true, true, true, true, true, false, false] rfl rfl (one_of HT_.out (by kernel_rfl)) (by decide) (fun K hK => ?_)
                              refine goes_ Try.func79 (by kernel_rfl) rfl #[.agg #[.int .i64 a0_0, .int .i64 a0_1], .agg #[.int .i64 ((rd_T62 x5_2 x7_3).f0), .int .i64 ((rd_T62 x5_2 x7_3).f1), .slice A719_2 ((rd_T62 x5_2 x7_3).f2).length c719_2], .agg #[.int .i64 ((rd_T80 l1 x6_2).f0), .int .i64 ((rd_T80 l1 x6_2).f1), .int .i64 ((rd_T80 l1 x6_2).f2)]] (by rfl) rfl rfl zf44_4 ?_
                              with_reducible refine (spec_l07Takes.calls a0_0 a0_1 ((rd_T62 x5_2 x7_3).f0) ((rd_T62 x5_2 x7_3).f1) _ _ ((rd_T62 x5_2 x7_3).f2) ((rd_T80 l1 x6_2).f0) ((rd_T80 l1 x6_2).f1) ((rd_T80 l1 x6_2).f2) true _ ?side1 ?side2 A20.out).mono ?_
                              (case side1 => repeat (first | exact zf44_3 | (with_reducible refine Kd.C_alloc ?_ _) | (with_reducible refine Kd.C_drewN ?_ _) | (with_reducible refine Kd.C_drew ?_)))
                              (case side2 => exact HC719_2.out)
                              rintro e w39 ⟨rfl, hb⟩
                              have HS2_ := (hb.cell (World.block_lt_of_cell? _ _ (hHeld.2.2.1))).trans (hHeld.2.2.1)
                              have HS3_ := (hb.cell (World.block_lt_of_cell? _ _ (hHeld.2.2.2.1))).trans (hHeld.2.2.2.1)
                              have HS4_ := (hb.cell (World.block_lt_of_cell? _ _ (hHeld.2.2.2.2.1))).trans (hHeld.2.2.2.2.1)
                              refine ⟨_, rfl, ?_⟩
                              have n0_ := Aside0.mk (Kd.N_below zf44_6 hb)
                              have n1_ := Aside0.mk (Kd.V_below zf44_5 hb)
                              have n2_ := Aside0.mk (blk_below (g := gb713) (o := .cells #[.int .i64 a0_0, .int .i64 a0_1] 49 (0, 0)) zf44_2 hb)
                              have n3_ := Aside0.mk (Kd.C_below zf44_3 hb)
                              have n4_ := Aside0.mk (below_step zf44_0 hb)
                              clear HO_5
                              clear HL719_2
                              clear BK713
                              clear HR719_2
                              clear HB
                              have HO_5 := n0_
                              have HL719_2 := n1_
                              have BK713 := n2_
                              have HR719_2 := n3_
                              have HB := n4_
                              clear n0_ n1_ n2_ n3_ n4_
                              (try clear hb)
                              (try clear hb2)
                              (try clear hk)
                              (try clear hi)
                              refine hK.out _ _ ⟨(blk_cell BK713.out 0).trans rfl, (blk_cell BK713.out 1).trans rfl, HS2_, HS3_, HS4_, ((HB.out.cell (World.block_lt_of_cell? w _ hw720_0)).trans hw720_0), ((HB.out.cell (World.block_lt_of_cell? w _ hw720_1)).trans hw720_1), ((HB.out.cell (World.block_lt_of_cell? w _ hw720_2)).trans hw720_2)⟩ (fun hHeld => ?_)
                              clear hK K
                              refine norm_ (a' := ?_) ?_ ?_
                              rotate_left
                              · show Act.put _ (some 38) _ = _
                                simp only [Act.put, List.setIfInBounds_toArray, List.set_cons_zero, List.set_cons_succ, i64_w, i32_w]
                                rfl
                              refine pS 15 39 ?_
                              refine pS 16 40 ?_
                              refine done_ (done_of HT_.out (by kernel_rfl)) ?_
                              try go_wp2
                              have n0_ := Aside0.mk (Kd.N_drew HO_5.out)
                              have n1_ := Aside0.mk (Kd.V_drew HL719_2.out)
                              have n2_ := Aside0.mk (blk_drew BK713.out)
                              have n3_ := Aside0.mk (Kd.C_drew HR719_2.out)
                              have n4_ := Aside0.mk (below_drew1 HB.out)
                              clear HO_5
                              clear HL719_2
                              clear BK713
                              clear HR719_2
                              clear HB
                              have HO_5 := n0_
                              have HL719_2 := n1_
                              have BK713 := n2_
                              have HR719_2 := n3_
                              have HB := n4_
                              clear n0_ n1_ n2_ n3_ n4_
                              have p733 : 0 ≤ (x7_3 : Int) := of_decide_eq_true zf44_1
                              have q733 : x7_3 < (x5_2.length : Int) := of_decide_eq_true zf44_1
                              obtain ⟨ad733, A733_2, c733_2, e733, hx733_0, hx733_1, hx733_2, hl733_2, hi733_2⟩ := at_T62 (Kd.N_reads' HO_5.out).2.2 x7_3 p733 q733
                              obtain rfl : ad719 = ad733 := (by injection e733)
                              obtain ⟨ce733, hce733, hMe733, hcc733⟩ := Kd.N_get HO_5.out z62 x7_3 p733 (by first | exact q733 | exact of_decide_eq_true zf44_1 | (have e_ := (Kd.N_reads' HO_5.out).1; omega))
                              obtain ⟨ua733_2, uc733_2, rfl, ul733_2, ge733_2⟩ := k62_openF hMe733
                              have hv733_2 := hcc733 2 _ rfl
                              rw [add_field _ _ 2 (by omega)] at hv733_2
                              replace hv733_2 := Option.some.inj (hv733_2.symm.trans hx733_2)
                              injection hv733_2 with hva_ hvn_ hvc_
                              rw [hva_] at ge733_2
                              rw [hvc_] at ul733_2
                              have HL733_2 := Aside0.mk (show Kd.V (Kd.int .i64) 3 _ w.heap.size _ _ ((rd_T62 x5_2 x7_3).f2) from Kd.V_mk ul733_2 ge733_2)
                              clear hva_ hvn_ hvc_ ge733_2 ul733_2
                              clear hcc733 hce733
                              have HR733_2 := Aside0.mk hi733_2
                              have HC733_2 := Aside0.mk hl733_2
                              clear hi733_2 hl733_2
                              replace p733 := eq_true p733
                              replace q733 := eq_true q733
                              have p734 : 0 ≤ (x6_2 : Int) := of_decide_eq_true zf44_1
                              have q734 : x6_2 < (l1.length : Int) := of_decide_eq_true zf44_1
                              obtain ⟨ad734, e734, hx734_0, hx734_1, hx734_2⟩ := at_T80 HR1.out x6_2 p734 q734
                              have hw734_2 := hx734_2
                              have hw734_1 := hx734_1
                              have hw734_0 := hx734_0
                              obtain rfl : ad720 = ad734 := (by injection e734)
                              replace hx734_0 := (HB.out.cell (World.block_lt_of_cell? w _ hx734_0)).trans hx734_0
                              replace hx734_1 := (HB.out.cell (World.block_lt_of_cell? w _ hx734_1)).trans hx734_1
                              replace hx734_2 := (HB.out.cell (World.block_lt_of_cell? w _ hx734_2)).trans hx734_2
                              replace p734 := eq_true p734
                              replace q734 := eq_true q734
                              refine start_ (n := 13) (S := fun w' => w'.cell? (ad719.add ((x7_3).toNat * 3)) = some (.int .i64 ((rd_T62 x5_2 x7_3).f0)) ∧ w'.cell? ⟨(ad719.add ((x7_3).toNat * 3)).block, (ad719.add ((x7_3).toNat * 3)).off + 1, none⟩ = some (.int .i64 ((rd_T62 x5_2 x7_3).f1)) ∧ w'.cell? ⟨(ad719.add ((x7_3).toNat * 3)).block, (ad719.add ((x7_3).toNat * 3)).off + 2, none⟩ = some (.slice A733_2 ((rd_T62 x5_2 x7_3).f2).length c733_2) ∧ w'.cell? (ad720.add ((x6_2).toNat * 3)) = some (.int .i64 ((rd_T80 l1 x6_2).f0)) ∧ w'.cell? ⟨(ad720.add ((x6_2).toNat * 3)).block, (ad720.add ((x6_2).toNat * 3)).off + 1, none⟩ = some (.int .i64 ((rd_T80 l1 x6_2).f1)) ∧ w'.cell? ⟨(ad720.add ((x6_2).toNat * 3)).block, (ad720.add ((x6_2).toNat * 3)).off + 2, none⟩ = some (.int .i64 ((rd_T80 l1 x6_2).f2))) (ds := [12]) #[false, false, false, false, false, false, false, false, false, false, false, false, false] (by kernel_rfl) rfl rfl ⟨hx733_0, hx733_1, hx733_2, ((HB.out.cell (World.block_lt_of_cell? w _ hw734_0)).trans hw734_0), ((HB.out.cell (World.block_lt_of_cell? w _ hw734_1)).trans hw734_1), ((HB.out.cell (World.block_lt_of_cell? w _ hw734_2)).trans hw734_2)⟩ (fun hHeld => ?_); refine with_tabW spec_FirstFit.tab12 spec_FirstFit.bits12 (fun HT_ HW_ => ?_)
                              generalize w39.drew = w40 at HO_5 HL719_2 BK713 HR719_2 HB HL733_2 HR733_2 hx733_0 hx733_1 hx733_2 hx734_0 hx734_1 hx734_2 hHeld ⊢
                              refine pS 0 51 ?_
                              refine pS 1 52 ?_
                              refine pS 2 53 ?_
                              refine pS 3 54 ?_
                              refine pS 4 55 ?_
                              refine pS 6 57 ?_
                              refine pS 7 58 ?_
                              refine pS 8 59 ?_
                              refine tS 5 56 ?_
                              refine tS 9 60 ?_
                              refine one_ (i := 10) (N := some 61) #[true, true, true, true, true, true, true, true, true, true, true, false, false] rfl rfl (one_of HT_.out (by kernel_rfl)) (by decide) (fun K hK => ?_)
                              refine goes_ Try.func80 (by kernel_rfl) rfl #[.agg #[.int .i64 ((rd_T62 x5_2 x7_3).f0), .int .i64 ((rd_T62 x5_2 x7_3).f1), .slice A733_2 ((rd_T62 x5_2 x7_3).f2).length c733_2], .agg #[.int .i64 ((rd_T80 l1 x6_2).f0), .int .i64 ((rd_T80 l1 x6_2).f1), .int .i64 ((rd_T80 l1 x6_2).f2)]] (by rfl) rfl rfl zf44_4 ?_
                              with_reducible refine (spec_l07With.calls ((rd_T62 x5_2 x7_3).f0) ((rd_T62 x5_2 x7_3).f1) _ _ ((rd_T62 x5_2 x7_3).f2) ((rd_T80 l1 x6_2).f0) ((rd_T80 l1 x6_2).f1) ((rd_T80 l1 x6_2).f2) t735 t736 t737 _ ?side1 ?side2 A35.out).mono ?_
                              (case side1 => repeat (first | exact zf44_13 | (with_reducible refine Kd.C_alloc ?_ _) | (with_reducible refine Kd.C_drewN ?_ _) | (with_reducible refine Kd.C_drew ?_)))
                              (case side2 => exact HC733_2.out)
                              rintro e w41 ⟨v738, rfl, ho0, hb⟩
                              have HS0_ := (hb.cell (World.block_lt_of_cell? _ _ (hHeld.1))).trans (hHeld.1)
                              have HS1_ := (hb.cell (World.block_lt_of_cell? _ _ (hHeld.2.1))).trans (hHeld.2.1)
                              have HS2_ := (hb.cell (World.block_lt_of_cell? _ _ (hHeld.2.2.1))).trans (hHeld.2.2.1)
                              refine ⟨_, rfl, ?_⟩
                              have n0_ := Aside0.mk (Kd.N_elder' zf44_6 (Kd.R_base ho0) hb)
                              have n1_ := Aside0.mk (Kd.V_elder' zf44_5 (Kd.R_base ho0) hb)
                              have n2_ := Aside0.mk (Kd.V_elder' (by (with_reducible repeat (first | apply Kd.V_alloc | apply Kd.V_drewN | apply Kd.V_drew)); exact HL733_2.out) (Kd.R_base ho0) hb)
                              have n3_ := Aside0.mk (Kd.R_lower (Kd.R_newM (M := fun k_ => (w.heap.size ≤ k_)) ho0 (below_size zf44_0) (fun k_ h_ => h_)) (below_size zf44_0))
                              have n4_ := Aside0.mk (blk_below (g := gb713) (o := .cells #[.int .i64 a0_0, .int .i64 a0_1] 49 (0, 0)) zf44_2 hb)
                              have n5_ := Aside0.mk (Kd.C_below zf44_3 hb)
                              have n6_ := Aside0.mk (Kd.C_below zf44_13 hb)
                              have n7_ := Aside0.mk (below_step zf44_0 hb)
                              clear HO_5
                              clear HL719_2
                              clear HL733_2
                              clear BK713
                              clear HR719_2
                              clear HR733_2
                              clear HB
                              have HO_5 := n0_
                              have HL719_2 := n1_
                              have HL733_2 := n2_
                              have HO739 := n3_
                              have BK713 := n4_
                              have HR719_2 := n5_
                              have HR733_2 := n6_
                              have HB := n7_
                              clear n0_ n1_ n2_ n3_ n4_ n5_ n6_ n7_
                              (try clear hb)
                              (try clear hb2)
                              (try clear hk)
                              (try clear hi)
                              (try clear ho0)
                              have p36 : 0 ≤ (x7_3 : Int) := of_decide_eq_true zf44_1
                              have q36 : (x7_3 : Int) < ((x5_2.length : Int) : Int) := of_decide_eq_true zf44_1
                              obtain ⟨go36, co36, eo36, gb36, gl36, cl36, HG36⟩ := Kd.N_form HO_5.out (by omega)
                              (first | cases eo36 | (injection eo36 with ea_ en_ ec_; (first | subst ea_ | (injection ea_ with ea_; subst ea_)); subst ec_; clear en_))
                              have GB36 := Aside0.mk gb36
                              have GG36 := Aside0.mk HG36
                              clear gb36 gl36 HG36
                              (first | simp only [add_plain] at hx719_0 | skip)
                              (first | simp only [add_plain] at hx719_1 | skip)
                              (first | simp only [add_plain] at hx719_2 | skip)
                              (first | simp only [add_plain] at hx733_0 | skip)
                              (first | simp only [add_plain] at hx733_1 | skip)
                              (first | simp only [add_plain] at hx733_2 | skip)
                              obtain ⟨ce36, hcl36, hM36, hcc36, hfr36⟩ := Kd.N_elem HO_5.out z62 (x7_3 : Int) p36 q36
                              obtain ⟨ua36_2, uc36_2, rfl, ul36_2, ge36_2⟩ := k62_openF hM36
                              have hx36_0 : World.cell? _ ⟨go36, (x7_3 : Int).toNat * 3, none⟩ = some (.int .i64 ((rd_T62 x5_2 x7_3).f0)) := hcc36 0 _ rfl
                              have hx36_1 : World.cell? _ ⟨go36, (x7_3 : Int).toNat * 3 + 1, none⟩ = some (.int .i64 ((rd_T62 x5_2 x7_3).f1)) := hcc36 1 _ rfl
                              have hx36_2 : World.cell? _ ⟨go36, (x7_3 : Int).toNat * 3 + 2, none⟩ = some (.slice ua36_2 ((rd_T62 x5_2 x7_3).f2).length uc36_2) := hcc36 2 _ rfl
                              have hf36_0 : World.frozen? _ ⟨go36, (x7_3 : Int).toNat * 3, none⟩ = false := hfr36 0
                              have hf36_1 : World.frozen? _ ⟨go36, (x7_3 : Int).toNat * 3 + 1, none⟩ = false := hfr36 1
                              have hf36_2 : World.frozen? _ ⟨go36, (x7_3 : Int).toNat * 3 + 2, none⟩ = false := hfr36 2
                              clear hcl36 hcc36 hfr36 hM36
                              replace p36 := eq_true p36
                              replace q36 := eq_true q36
                              obtain ⟨Ao738, co738, eo738⟩ := Kd.R_slice HO739.out
                              subst eo738
                              have HX42 := Aside0.mk (show Kd.N k62 62 _ w.heap.size (fun k_ => (w.heap.size ≤ k_) ∧ some k_ ≠ ((.slice Ao738 t737.length co738) : Value).ownBlock ∧ k_ ≠ gb713) (.slice (some ⟨go36, 0, none⟩) x5_2.length co38) x5_2 from (Kd.N_mono (HO_5.out) (fun k_ hk => ⟨hk.1.1, ⟨hk.2, hk.1.2⟩⟩)))
                              replace HX42 := Aside0.mk (show Kd.N k62 62 _ w.heap.size (fun k_ => (w.heap.size ≤ k_) ∧ k_ ≠ gb713) (.slice (some ⟨go36, 0, none⟩) x5_2.length co38) x5_2 from Kd.N_mono HX42.out (fun k_ hk => ⟨hk.1, hk.2.2⟩))
                              obtain ⟨ce42, hcl42, hM42, hcc42, hfr42⟩ := Kd.N_elem HX42.out z62 (x7_3 : Int) (of_decide_eq_true zf44_1) zf44_18
                              obtain ⟨ua42_2, uc42_2, rfl, ul42_2, ge42_2⟩ := k62_openF hM42
                              have HP42 := (Kd.N_seg HX42.out (x7_3 : Int) (of_decide_eq_true zf44_1) zf44_18 (seg := [.int .i64 t735, .int .i64 t736, (.slice Ao738 t737.length co738)]) (j := 0) hcl42 hcc42 (show 3 ≤ 3 from by decide) (x' := (⟨t735, t736, t737⟩ : S62)) (k62_mkF _ _ (⟨t735, t736, t737⟩ : S62) (Kd.R_reads' (Kd.R_mono (ok' := (fun k_ => ((fun k_ => (w.heap.size ≤ k_) ∧ k_ ≠ gb713)) k_ ∧ k_ ≠ go36)) (Kd.R_types (Kd.R_apart' (HO739.out) (Kd.N_typed HO_5.out) (by decide)) BK713.out (by decide)) (fun k_ hk => ⟨⟨hk.1.1.1, hk.2⟩, fun e_ => (hk.1.2) (by rw [e_]; rfl)⟩))).2.1 (Kd.R_F (Kd.R_mono (ok' := (fun k_ => ((fun k_ => (w.heap.size ≤ k_) ∧ k_ ≠ gb713)) k_ ∧ k_ ≠ go36)) (Kd.R_types (Kd.R_apart' (HO739.out) (Kd.N_typed HO_5.out) (by decide)) BK713.out (by decide)) (fun k_ hk => ⟨⟨hk.1.1.1, hk.2⟩, fun e_ => (hk.1.2) (by rw [e_]; rfl)⟩)))) (fun _ hk => hk)).1
                              rw [← Ny740.out] at HP42
                              have HQ42 := Aside0.mk HP42
                              clear hcl42 hcc42 hfr42 hM42 HP42
                              refine hK.out _ _ ⟨HS0_, HS1_, HS2_, ((HB.out.cell (World.block_lt_of_cell? w _ hw734_0)).trans hw734_0), ((HB.out.cell (World.block_lt_of_cell? w _ hw734_1)).trans hw734_1), ((HB.out.cell (World.block_lt_of_cell? w _ hw734_2)).trans hw734_2)⟩ (fun hHeld => ?_)
                              clear hK K
                              refine norm_ (a' := ?_) ?_ ?_
                              rotate_left
                              · show Act.put _ (some 61) _ = _
                                simp only [Act.put, List.setIfInBounds_toArray, List.set_cons_zero, List.set_cons_succ, i64_w, i32_w]
                                rfl
                              refine pS 11 62 ?_
                              refine last_ (i := 12) (N := none) #[true, true, true, true, true, true, true, true, true, true, true, true, true] rfl rfl (one_of HT_.out (by kernel_rfl)) (by decide) (fun K hK => ?_)
                              refine skip_ (w1 := ?_) (by rfl) rfl ?_ ?_
                              rotate_left
                              · go_simp
                                rfl
                              refine hK.out _ _ ?_
                              clear hK K
                              refine done_ (done_of HT_.out (by kernel_rfl)) ?_
                              try go_wp2
                              go_roundg k3
                              case measure => have := HJ2.out; have := HK2.out; have := HK3.out; omega
                              case rel => exact ⟨(y740), (wrap64 (x6_2 + 1)), zf44_7, H', ⟨by have := HJ2.out; have := HK2.out; have := HK3.out; omega⟩, ⟨by (with_reducible repeat (first | apply Kd.N_alloc | apply Kd.N_drewN | apply Kd.N_drew)); exact HQ42.out⟩, ⟨by (with_reducible repeat (first | refine blk_drewN ?_ _ | refine blk_drew ?_ | refine blk_alloc ?_ _)); refine blk_far ?_ zf44_10 _; (with_reducible repeat (first | refine blk_drewN ?_ _ | refine blk_drew ?_ | refine blk_alloc ?_ _)); refine blk_far ?_ zf44_10 _; (with_reducible repeat (first | refine blk_drewN ?_ _ | refine blk_drew ?_ | refine blk_alloc ?_ _)); refine blk_far ?_ zf44_10 _; (with_reducible repeat (first | refine blk_drewN ?_ _ | refine blk_drew ?_ | refine blk_alloc ?_ _)); exact BK713.out⟩, ⟨by repeat (first | (with_reducible first | exact HB.out | apply below_alloc | apply pw_below_drewN | apply below_drew1 | refine below_set ?_ GB36.out | refine below_set ?_ GB36.out | refine below_set ?_ GB36.out | refine below_set ?_ GE713.out) | exact HB.out)⟩⟩
                          · replace c21 := Bool.eq_false_iff.mpr c21
                            subst c21
                            have H1 : (spec_FirstFit.l1 k3 l1 x5_2 x6_2 (wrap64 (x7_3 + 1)) a0_0 a0_1) = some r := by rw [if_neg (show ¬ (false = true) by decide)] at H; exact H
                            clear H
                            have H := H1
                            clear H1
                            have H' := Aside0.mk H
                            clear H
                            try go_wp2
                            have n0_ := Aside0.mk (Kd.N_drew HO_5.out)
                            have n1_ := Aside0.mk (blk_drew BK713.out)
                            have n2_ := Aside0.mk (below_drew1 HB.out)
                            clear HO_5
                            clear BK713
                            clear HB
                            have HO_5 := n0_
                            have BK713 := n1_
                            have HB := n2_
                            clear n0_ n1_ n2_
                            obtain ⟨Ao44, co44, eo44⟩ := Kd.N_slice HO_5.out
                            (first | subst eo44 | (injection eo44 with f1_ f2_ f3_; have f4_ := f1_.symm; have f5_ := f3_.symm; clear f1_ f2_ f3_; subst f4_; subst f5_))
                            have p719 : 0 ≤ (x7_3 : Int) := of_decide_eq_true zf44_1
                            have q719 : x7_3 < (x5_2.length : Int) := of_decide_eq_true zf44_1
                            obtain ⟨ad719, A719_2, c719_2, e719, hx719_0, hx719_1, hx719_2, hl719_2, hi719_2⟩ := at_T62 (Kd.N_reads' HO_5.out).2.2 x7_3 p719 q719
                            cases e719
                            obtain ⟨ce719, hce719, hMe719, hcc719⟩ := Kd.N_get HO_5.out z62 x7_3 p719 zf44_15
                            obtain ⟨ua719_2, uc719_2, rfl, ul719_2, ge719_2⟩ := k62_openF hMe719
                            have hv719_2 := hcc719 2 _ rfl
                            rw [add_field _ _ 2 (by omega)] at hv719_2
                            replace hv719_2 := Option.some.inj (hv719_2.symm.trans hx719_2)
                            injection hv719_2 with hva_ hvn_ hvc_
                            rw [hva_] at ge719_2
                            rw [hvc_] at ul719_2
                            have HL719_2 := Aside0.mk (show Kd.V (Kd.int .i64) 3 _ w.heap.size _ _ ((rd_T62 x5_2 x7_3).f2) from Kd.V_mk ul719_2 ge719_2)
                            clear hva_ hvn_ hvc_ ge719_2 ul719_2
                            clear hcc719 hce719
                            have HR719_2 := Aside0.mk hi719_2
                            have HC719_2 := Aside0.mk hl719_2
                            clear hi719_2 hl719_2
                            replace p719 := eq_true p719
                            replace q719 := eq_true q719
                            have p720 : 0 ≤ (x6_2 : Int) := of_decide_eq_true zf44_1
                            have q720 : x6_2 < (l1.length : Int) := of_decide_eq_true zf44_1
                            obtain ⟨ad720, e720, hx720_0, hx720_1, hx720_2⟩ := at_T80 HR1.out x6_2 p720 q720
                            have hw720_2 := hx720_2
                            have hw720_1 := hx720_1
                            have hw720_0 := hx720_0
                            cases e720
                            replace hx720_0 := (HB.out.cell (World.block_lt_of_cell? w _ hx720_0)).trans hx720_0
                            replace hx720_1 := (HB.out.cell (World.block_lt_of_cell? w _ hx720_1)).trans hx720_1
                            replace hx720_2 := (HB.out.cell (World.block_lt_of_cell? w _ hx720_2)).trans hx720_2
                            replace p720 := eq_true p720
                            replace q720 := eq_true q720
                            refine start_ (n := 17) (S := fun w' => w'.cell? ⟨gb713, 0, none⟩ = some (.int .i64 a0_0) ∧ w'.cell? ⟨gb713, 1, none⟩ = some (.int .i64 a0_1) ∧ w'.cell? (ad719.add ((x7_3).toNat * 3)) = some (.int .i64 ((rd_T62 x5_2 x7_3).f0)) ∧ w'.cell? ⟨(ad719.add ((x7_3).toNat * 3)).block, (ad719.add ((x7_3).toNat * 3)).off + 1, none⟩ = some (.int .i64 ((rd_T62 x5_2 x7_3).f1)) ∧ w'.cell? ⟨(ad719.add ((x7_3).toNat * 3)).block, (ad719.add ((x7_3).toNat * 3)).off + 2, none⟩ = some (.slice A719_2 ((rd_T62 x5_2 x7_3).f2).length c719_2) ∧ w'.cell? (ad720.add ((x6_2).toNat * 3)) = some (.int .i64 ((rd_T80 l1 x6_2).f0)) ∧ w'.cell? ⟨(ad720.add ((x6_2).toNat * 3)).block, (ad720.add ((x6_2).toNat * 3)).off + 1, none⟩ = some (.int .i64 ((rd_T80 l1 x6_2).f1)) ∧ w'.cell? ⟨(ad720.add ((x6_2).toNat * 3)).block, (ad720.add ((x6_2).toNat * 3)).off + 2, none⟩ = some (.int .i64 ((rd_T80 l1 x6_2).f2))) (ds := []) #[false, false, false, false, false, false, false, false, false, false, false, false, false, false, false, false, false] (by kernel_rfl) rfl rfl ⟨(blk_cell BK713.out 0).trans rfl, (blk_cell BK713.out 1).trans rfl, hx719_0, hx719_1, hx719_2, ((HB.out.cell (World.block_lt_of_cell? w _ hw720_0)).trans hw720_0), ((HB.out.cell (World.block_lt_of_cell? w _ hw720_1)).trans hw720_1), ((HB.out.cell (World.block_lt_of_cell? w _ hw720_2)).trans hw720_2)⟩ (fun hHeld => ?_); refine with_tabW spec_FirstFit.tab8 spec_FirstFit.bits8 (fun HT_ HW_ => ?_)
                            generalize wr.drew = w43 at HO_5 BK713 HB HL719_2 HR719_2 hx719_0 hx719_1 hx719_2 hx720_0 hx720_1 hx720_2 hHeld ⊢
                            refine pS 0 24 ?_
                            refine pS 1 25 ?_
                            refine pS 2 26 ?_
                            refine pS 3 27 ?_
                            refine pS 4 28 ?_
                            refine pS 6 30 ?_
                            refine pS 7 31 ?_
                            refine pS 8 32 ?_
                            refine pS 10 34 ?_
                            refine pS 11 35 ?_
                            refine pS 12 36 ?_
                            refine tS 5 29 ?_
                            refine tS 9 33 ?_
                            refine tS 13 37 ?_
                            refine one_ (i := 14) (N := some 38) #[true, true, true, true, true, true, true, true, true, true, true, true, true, true, true, false, false] rfl rfl (one_of HT_.out (by kernel_rfl)) (by decide) (fun K hK => ?_)
                            refine goes_ Try.func79 (by kernel_rfl) rfl #[.agg #[.int .i64 a0_0, .int .i64 a0_1], .agg #[.int .i64 ((rd_T62 x5_2 x7_3).f0), .int .i64 ((rd_T62 x5_2 x7_3).f1), .slice A719_2 ((rd_T62 x5_2 x7_3).f2).length c719_2], .agg #[.int .i64 ((rd_T80 l1 x6_2).f0), .int .i64 ((rd_T80 l1 x6_2).f1), .int .i64 ((rd_T80 l1 x6_2).f2)]] (by rfl) rfl rfl zf44_4 ?_
                            with_reducible refine (spec_l07Takes.calls a0_0 a0_1 ((rd_T62 x5_2 x7_3).f0) ((rd_T62 x5_2 x7_3).f1) _ _ ((rd_T62 x5_2 x7_3).f2) ((rd_T80 l1 x6_2).f0) ((rd_T80 l1 x6_2).f1) ((rd_T80 l1 x6_2).f2) false _ ?side1 ?side2 A20.out).mono ?_
                            (case side1 => repeat (first | exact zf44_3 | (with_reducible refine Kd.C_alloc ?_ _) | (with_reducible refine Kd.C_drewN ?_ _) | (with_reducible refine Kd.C_drew ?_)))
                            (case side2 => exact HC719_2.out)
                            rintro e w45 ⟨rfl, hb⟩
                            have HS2_ := (hb.cell (World.block_lt_of_cell? _ _ (hHeld.2.2.1))).trans (hHeld.2.2.1)
                            have HS3_ := (hb.cell (World.block_lt_of_cell? _ _ (hHeld.2.2.2.1))).trans (hHeld.2.2.2.1)
                            have HS4_ := (hb.cell (World.block_lt_of_cell? _ _ (hHeld.2.2.2.2.1))).trans (hHeld.2.2.2.2.1)
                            refine ⟨_, rfl, ?_⟩
                            have n0_ := Aside0.mk (Kd.N_below zf44_6 hb)
                            have n1_ := Aside0.mk (Kd.V_below zf44_5 hb)
                            have n2_ := Aside0.mk (blk_below (g := gb713) (o := .cells #[.int .i64 a0_0, .int .i64 a0_1] 49 (0, 0)) zf44_2 hb)
                            have n3_ := Aside0.mk (Kd.C_below zf44_3 hb)
                            have n4_ := Aside0.mk (below_step zf44_0 hb)
                            clear HO_5
                            clear HL719_2
                            clear BK713
                            clear HR719_2
                            clear HB
                            have HO_5 := n0_
                            have HL719_2 := n1_
                            have BK713 := n2_
                            have HR719_2 := n3_
                            have HB := n4_
                            clear n0_ n1_ n2_ n3_ n4_
                            (try clear hb)
                            (try clear hb2)
                            (try clear hk)
                            (try clear hi)
                            refine hK.out _ _ ⟨(blk_cell BK713.out 0).trans rfl, (blk_cell BK713.out 1).trans rfl, HS2_, HS3_, HS4_, ((HB.out.cell (World.block_lt_of_cell? w _ hw720_0)).trans hw720_0), ((HB.out.cell (World.block_lt_of_cell? w _ hw720_1)).trans hw720_1), ((HB.out.cell (World.block_lt_of_cell? w _ hw720_2)).trans hw720_2)⟩ (fun hHeld => ?_)
                            clear hK K
                            refine norm_ (a' := ?_) ?_ ?_
                            rotate_left
                            · show Act.put _ (some 38) _ = _
                              simp only [Act.put, List.setIfInBounds_toArray, List.set_cons_zero, List.set_cons_succ, i64_w, i32_w]
                              rfl
                            refine pS 15 39 ?_
                            refine pS 16 40 ?_
                            refine done_ (done_of HT_.out (by kernel_rfl)) ?_
                            try go_wp2
                            go_roundg k3
                            case measure => have := HJ2.out; have := HK2.out; have := HK3.out; omega
                            case rel => exact ⟨(wrap64 (x7_3 + 1)), zf44_7, H', ⟨by have := HJ2.out; have := HK2.out; have := HK3.out; omega⟩, ⟨by (with_reducible repeat (first | apply Kd.N_alloc | apply Kd.N_drewN | apply Kd.N_drew)); exact HO_5.out⟩, ⟨by (with_reducible repeat (first | refine blk_drewN ?_ _ | refine blk_drew ?_ | refine blk_alloc ?_ _)); exact BK713.out⟩, ⟨by repeat (first | (with_reducible first | exact HB.out | apply below_alloc | apply pw_below_drewN | apply below_drew1 | refine below_set ?_ GE713.out) | exact HB.out)⟩⟩
                        · rw [if_neg c19] at H
                          exact absurd H (by simp)
                      · rw [if_neg c18] at H
                        exact absurd H (by simp)
                    · rw [if_neg c17] at H
                      exact absurd H (by simp)
                  · rw [if_neg c16] at H
                    have c16b0 : decide (x7_3 < (x5_2.length : Int)) = false := decide_eq_false c16
                    clear c16
                    by_cases c46 : x7_3 = (x5_2.length : Int)
                    · rw [if_pos c46] at H
                      have c46b0 : (x7_3 == (x5_2.length : Int)) = true := beq_iff_eq.mpr c46
                      have c46b1 : (x7_3 != (x5_2.length : Int)) = false := bne_eq_false_iff_eq.mpr c46
                      clear c46
                      by_cases c47 : x5_2.length < 3518437208883
                      · rw [if_pos c47] at H
                        have LMc47 := Aside0.mk c47
                        clear c47
                        obtain ⟨y741, hy741⟩ : ∃ y_ : List (S62), y_ = (x5_2 ++ [(⟨0, 0, ([] : List Int)⟩ : S62)]) := ⟨_, rfl⟩
                        replace H : (if 0 ≤ x7_3 then (if x7_3 < (y741.length : Int) then (if 0 ≤ x6_2 then (if x6_2 < (l1.length : Int) then ((spec_l07With.f ((rd_T62 y741 x7_3).f0) ((rd_T62 y741 x7_3).f1) ((rd_T62 y741 x7_3).f2) ((rd_T80 l1 x6_2).f0) ((rd_T80 l1 x6_2).f1) ((rd_T80 l1 x6_2).f2)).bind fun bt746 => (spec_FirstFit.l0 k3 l1 (y741.set (x7_3 : Int).toNat (⟨bt746.1, bt746.2.1, bt746.2.2⟩ : S62)) (wrap64 (x6_2 + 1)) a0_0 a0_1)) else (none)) else (none)) else (none)) else (none)) = some r := by first | (rw [hy741]; with_reducible exact H) | (have H2_ := (Option.bind_some _ _).symm.trans H; rw [hy741]; with_reducible exact H2_) | (have H2_ := (Option.bind_some _ _).symm.trans H; with_reducible exact H2_) | with_reducible exact H | (rw [hy741]; exact H) | exact H
                        have Ny741 := Aside0.mk hy741
                        clear hy741
                        by_cases c48 : 0 ≤ x7_3
                        · rw [if_pos c48] at H
                          have c48b0 : decide (0 ≤ x7_3) = true := decide_eq_true c48
                          clear c48
                          by_cases c49 : x7_3 < (y741.length : Int)
                          · rw [if_pos c49] at H
                            have c49b0 : decide (x7_3 < (y741.length : Int)) = true := decide_eq_true c49
                            clear c49
                            by_cases c50 : 0 ≤ x6_2
                            · rw [if_pos c50] at H
                              have c50b0 : decide (0 ≤ x6_2) = true := decide_eq_true c50
                              clear c50
                              by_cases c51 : x6_2 < (l1.length : Int)
                              · rw [if_pos c51] at H
                                have c51b0 : decide (x6_2 < (l1.length : Int)) = true := decide_eq_true c51
                                clear c51
                                replace H := Option.bind_eq_some_iff.mp H
                                obtain ⟨⟨t746, t747, t748⟩, A520, H⟩ := H
                                replace H : (spec_FirstFit.l0 k3 l1 (y741.set (x7_3 : Int).toNat (⟨t746, t747, t748⟩ : S62)) (wrap64 (x6_2 + 1)) a0_0 a0_1) = some r := H
                                have A52 := Aside0.mk A520
                                clear A520
                                obtain ⟨y751, hy751⟩ : ∃ y_ : List (S62), y_ = (y741.set (x7_3 : Int).toNat (⟨t746, t747, t748⟩ : S62)) := ⟨_, rfl⟩
                                replace H : (spec_FirstFit.l0 k3 l1 y751 (wrap64 (x6_2 + 1)) a0_0 a0_1) = some r := by first | (rw [hy751]; with_reducible exact H) | (have H2_ := (Option.bind_some _ _).symm.trans H; rw [hy751]; with_reducible exact H2_) | (have H2_ := (Option.bind_some _ _).symm.trans H; with_reducible exact H2_) | with_reducible exact H | (rw [hy751]; exact H) | exact H
                                have Ny751 := Aside0.mk hy751
                                clear hy751
                                have H' := Aside0.mk H
                                clear H
                                try go_wp2
                                have n0_ := Aside0.mk (Kd.N_drew HO_5.out)
                                have n1_ := Aside0.mk (blk_drew BK713.out)
                                have n2_ := Aside0.mk (below_drew1 HB.out)
                                clear HO_5
                                clear BK713
                                clear HB
                                have HO_5 := n0_
                                have BK713 := n1_
                                have HB := n2_
                                clear n0_ n1_ n2_
                                obtain ⟨Ao55, co55, eo55⟩ := Kd.N_slice HO_5.out
                                (first | subst eo55 | (injection eo55 with f1_ f2_ f3_; have f4_ := f1_.symm; have f5_ := f3_.symm; clear f1_ f2_ f3_; subst f4_; subst f5_))
                                refine start_ (n := 17) (S := fun w' => True) (ds := []) #[false, false, false, false, false, false, false, false, false, false, false, false, false, false, false, false, false] (by kernel_rfl) rfl rfl trivial (fun hHeld => ?_); refine with_tabW spec_FirstFit.tab8 spec_FirstFit.bits8 (fun HT_ HW_ => ?_)
                                generalize wr.drew = w54 at HO_5 BK713 HB hHeld ⊢
                                refine pS 0 24 ?_
                                refine pS 1 25 ?_
                                refine pS 2 26 ?_
                                refine pS 3 27 ?_
                                refine pS 4 28 ?_
                                refine pure_ (i := 5) (N := some 29) (v := undef) (a' := ?_) #[true, true, true, true, true, true, false, false, false, false, false, false, false, false, false, false, false] rfl rfl (any_of HT_.out (by kernel_rfl)) (fun _ _ _ h => h) (Or.inr ⟨by rfl, rfl⟩) ?_ ?_
                                rotate_left
                                · simp only [Act.put, List.setIfInBounds_toArray, List.set_cons_zero, List.set_cons_succ, i64_w, i32_w]
                                  rfl
                                refine pure_ (i := 6) (N := some 30) (v := undef) (a' := ?_) #[true, true, true, true, true, true, true, false, false, false, false, false, false, false, false, false, false] rfl rfl (any_of HT_.out (by kernel_rfl)) (fun _ _ _ h => h) (Or.inr ⟨by rfl, rfl⟩) ?_ ?_
                                rotate_left
                                · simp only [Act.put, List.setIfInBounds_toArray, List.set_cons_zero, List.set_cons_succ, i64_w, i32_w]
                                  rfl
                                refine pure_ (i := 7) (N := some 31) (v := undef) (a' := ?_) #[true, true, true, true, true, true, true, true, false, false, false, false, false, false, false, false, false] rfl rfl (any_of HT_.out (by kernel_rfl)) (fun _ _ _ h => h) (Or.inr ⟨by rfl, rfl⟩) ?_ ?_
                                rotate_left
                                · simp only [Act.put, List.setIfInBounds_toArray, List.set_cons_zero, List.set_cons_succ, i64_w, i32_w]
                                  rfl
                                refine pure_ (i := 8) (N := some 32) (v := undef) (a' := ?_) #[true, true, true, true, true, true, true, true, true, false, false, false, false, false, false, false, false] rfl rfl (any_of HT_.out (by kernel_rfl)) (fun _ _ _ h => h) (Or.inr ⟨by rfl, rfl⟩) ?_ ?_
                                rotate_left
                                · simp only [Act.put, List.setIfInBounds_toArray, List.set_cons_zero, List.set_cons_succ, i64_w, i32_w]
                                  rfl
                                refine pure_ (i := 9) (N := some 33) (v := undef) (a' := ?_) #[true, true, true, true, true, true, true, true, true, true, false, false, false, false, false, false, false] rfl rfl (any_of HT_.out (by kernel_rfl)) (fun _ _ _ h => h) (Or.inr ⟨by rfl, rfl⟩) ?_ ?_
                                rotate_left
                                · simp only [Act.put, List.setIfInBounds_toArray, List.set_cons_zero, List.set_cons_succ, i64_w, i32_w]
                                  rfl
                                refine pure_ (i := 10) (N := some 34) (v := undef) (a' := ?_) #[true, true, true, true, true, true, true, true, true, true, true, false, false, false, false, false, false] rfl rfl (any_of HT_.out (by kernel_rfl)) (fun _ _ _ h => h) (Or.inr ⟨by rfl, rfl⟩) ?_ ?_
                                rotate_left
                                · simp only [Act.put, List.setIfInBounds_toArray, List.set_cons_zero, List.set_cons_succ, i64_w, i32_w]
                                  rfl
                                refine pure_ (i := 11) (N := some 35) (v := undef) (a' := ?_) #[true, true, true, true, true, true, true, true, true, true, true, true, false, false, false, false, false] rfl rfl (any_of HT_.out (by kernel_rfl)) (fun _ _ _ h => h) (Or.inr ⟨by rfl, rfl⟩) ?_ ?_
                                rotate_left
                                · simp only [Act.put, List.setIfInBounds_toArray, List.set_cons_zero, List.set_cons_succ, i64_w, i32_w]
                                  rfl
                                refine pure_ (i := 12) (N := some 36) (v := undef) (a' := ?_) #[true, true, true, true, true, true, true, true, true, true, true, true, true, false, false, false, false] rfl rfl (any_of HT_.out (by kernel_rfl)) (fun _ _ _ h => h) (Or.inr ⟨by rfl, rfl⟩) ?_ ?_
                                rotate_left
                                · simp only [Act.put, List.setIfInBounds_toArray, List.set_cons_zero, List.set_cons_succ, i64_w, i32_w]
                                  rfl
                                refine pure_ (i := 13) (N := some 37) (v := undef) (a' := ?_) #[true, true, true, true, true, true, true, true, true, true, true, true, true, true, false, false, false] rfl rfl (any_of HT_.out (by kernel_rfl)) (fun _ _ _ h => h) (Or.inr ⟨by rfl, rfl⟩) ?_ ?_
                                rotate_left
                                · simp only [Act.put, List.setIfInBounds_toArray, List.set_cons_zero, List.set_cons_succ, i64_w, i32_w]
                                  rfl
                                refine pure_ (i := 14) (N := some 38) (v := undef) (a' := ?_) #[true, true, true, true, true, true, true, true, true, true, true, true, true, true, true, false, false] rfl rfl (any_of HT_.out (by kernel_rfl)) (fun _ _ _ h => h) (Or.inr ⟨by rfl, rfl⟩) ?_ ?_
                                rotate_left
                                · simp only [Act.put, List.setIfInBounds_toArray, List.set_cons_zero, List.set_cons_succ, i64_w, i32_w]
                                  rfl
                                refine pure_ (i := 15) (N := some 39) (v := undef) (a' := ?_) #[true, true, true, true, true, true, true, true, true, true, true, true, true, true, true, true, false] rfl rfl (any_of HT_.out (by kernel_rfl)) (fun _ _ _ h => h) (Or.inr ⟨by rfl, rfl⟩) ?_ ?_
                                rotate_left
                                · simp only [Act.put, List.setIfInBounds_toArray, List.set_cons_zero, List.set_cons_succ, i64_w, i32_w]
                                  rfl
                                refine pS 16 40 ?_
                                refine done_ (done_of HT_.out (by kernel_rfl)) ?_
                                try go_wp2_with ((with_reducible refine gate_builtin (b := .append) (xs := #[.tmp 47, .tmp 49]) rfl ?_); at_builtin; refine Kd.N_append k62 (w0 := w) w.heap.size rfl (.tmp 47) (.tmp 49) 52 62 (.agg #[(.int .i64 0), (.int .i64 0), (.slice none 0 0)]) 40 rfl Try.underlying52 info62 rfl (by decide) (by omega) (.slice Ao55 x5_2.length co55) x5_2 (⟨0, 0, ([] : List Int)⟩ : S62) [.int .i64 0, .int .i64 0, .slice none 0 0] (fun k_ => (w.heap.size ≤ k_) ∧ k_ ≠ gb713) (fun k_ => ((fun k_ => (w.heap.size ≤ k_) ∧ k_ ≠ gb713)) k_ ∧ some k_ ≠ (.slice Ao55 x5_2.length co55 : Value).ownBlock) rfl rfl ?aP (fun _ hk => hk) ?aF ?aO ?aB ?aS ?aL ?_; (case aP => exact (k62_mkF _ _ (⟨0, 0, ([] : List Int)⟩ : S62) (Nat.le_refl _) (Kd.F_nil _ _ _))); (case aB => exact zf44_0); (case aF => exact (fun k_ hk => ⟨(Nat.le_trans (below_size zf44_0) hk), Kd.freshB (g := gb713) (o := .cells #[.int .i64 a0_0, .int .i64 a0_1] 49 (0, 0)) zf44_2 k_ hk⟩)); (case aO => exact zf44_6); (case aS => exact (below_size zf44_0)); (case aL => have := LMc47.out; omega); intro v742 w56 ho hb hg hat; rw [← Ny741.out] at ho; have n0_ := Aside0.mk (blk_grown (g := gb713) (o := .cells #[.int .i64 a0_0, .int .i64 a0_1] 49 (0, 0)) zf44_2 hg (Kd.N_ne HO_5.out BK713.out (by decide))); have n1_ := Aside0.mk (hb); have n2_ := Aside0.mk (ho); clear BK713; clear HB; clear HO_5; have BK713 := n0_; have HB := n1_; have HO743 := n2_; clear n0_ n1_ n2_; clear ho hb hg hat)
                                have n0_ := Aside0.mk (Kd.N_drew HO743.out)
                                have n1_ := Aside0.mk (blk_drew BK713.out)
                                have n2_ := Aside0.mk (below_drew1 HB.out)
                                clear HO743
                                clear BK713
                                clear HB
                                have HO743 := n0_
                                have BK713 := n1_
                                have HB := n2_
                                clear n0_ n1_ n2_
                                obtain ⟨Ao58, co58, eo58⟩ := Kd.N_slice HO743.out
                                (first | subst eo58 | (injection eo58 with f1_ f2_ f3_; have f4_ := f1_.symm; have f5_ := f3_.symm; clear f1_ f2_ f3_; subst f4_; subst f5_))
                                have p744 : 0 ≤ (x7_3 : Int) := of_decide_eq_true zf44_1
                                have q744 : x7_3 < (y741.length : Int) := of_decide_eq_true zf44_1
                                obtain ⟨ad744, A744_2, c744_2, e744, hx744_0, hx744_1, hx744_2, hl744_2, hi744_2⟩ := at_T62 (Kd.N_reads' HO743.out).2.2 x7_3 p744 q744
                                cases e744
                                obtain ⟨ce744, hce744, hMe744, hcc744⟩ := Kd.N_get HO743.out z62 x7_3 p744 (by first | exact q744 | exact of_decide_eq_true zf44_1 | (have e_ := (Kd.N_reads' HO743.out).1; omega))
                                obtain ⟨ua744_2, uc744_2, rfl, ul744_2, ge744_2⟩ := k62_openF hMe744
                                have hv744_2 := hcc744 2 _ rfl
                                rw [add_field _ _ 2 (by omega)] at hv744_2
                                replace hv744_2 := Option.some.inj (hv744_2.symm.trans hx744_2)
                                injection hv744_2 with hva_ hvn_ hvc_
                                rw [hva_] at ge744_2
                                rw [hvc_] at ul744_2
                                have HL744_2 := Aside0.mk (show Kd.V (Kd.int .i64) 3 _ w.heap.size _ _ ((rd_T62 y741 x7_3).f2) from Kd.V_mk ul744_2 ge744_2)
                                clear hva_ hvn_ hvc_ ge744_2 ul744_2
                                clear hcc744 hce744
                                have HR744_2 := Aside0.mk hi744_2
                                have HC744_2 := Aside0.mk hl744_2
                                clear hi744_2 hl744_2
                                replace p744 := eq_true p744
                                replace q744 := eq_true q744
                                have p745 : 0 ≤ (x6_2 : Int) := of_decide_eq_true zf44_1
                                have q745 : x6_2 < (l1.length : Int) := of_decide_eq_true zf44_1
                                obtain ⟨ad745, e745, hx745_0, hx745_1, hx745_2⟩ := at_T80 HR1.out x6_2 p745 q745
                                have hw745_2 := hx745_2
                                have hw745_1 := hx745_1
                                have hw745_0 := hx745_0
                                cases e745
                                replace hx745_0 := (HB.out.cell (World.block_lt_of_cell? w _ hx745_0)).trans hx745_0
                                replace hx745_1 := (HB.out.cell (World.block_lt_of_cell? w _ hx745_1)).trans hx745_1
                                replace hx745_2 := (HB.out.cell (World.block_lt_of_cell? w _ hx745_2)).trans hx745_2
                                replace p745 := eq_true p745
                                replace q745 := eq_true q745
                                refine start_ (n := 13) (S := fun w' => w'.cell? (ad744.add ((x7_3).toNat * 3)) = some (.int .i64 ((rd_T62 y741 x7_3).f0)) ∧ w'.cell? ⟨(ad744.add ((x7_3).toNat * 3)).block, (ad744.add ((x7_3).toNat * 3)).off + 1, none⟩ = some (.int .i64 ((rd_T62 y741 x7_3).f1)) ∧ w'.cell? ⟨(ad744.add ((x7_3).toNat * 3)).block, (ad744.add ((x7_3).toNat * 3)).off + 2, none⟩ = some (.slice A744_2 ((rd_T62 y741 x7_3).f2).length c744_2) ∧ w'.cell? (ad745.add ((x6_2).toNat * 3)) = some (.int .i64 ((rd_T80 l1 x6_2).f0)) ∧ w'.cell? ⟨(ad745.add ((x6_2).toNat * 3)).block, (ad745.add ((x6_2).toNat * 3)).off + 1, none⟩ = some (.int .i64 ((rd_T80 l1 x6_2).f1)) ∧ w'.cell? ⟨(ad745.add ((x6_2).toNat * 3)).block, (ad745.add ((x6_2).toNat * 3)).off + 2, none⟩ = some (.int .i64 ((rd_T80 l1 x6_2).f2))) (ds := [12]) #[false, false, false, false, false, false, false, false, false, false, false, false, false] (by kernel_rfl) rfl rfl ⟨hx744_0, hx744_1, hx744_2, ((HB.out.cell (World.block_lt_of_cell? w _ hw745_0)).trans hw745_0), ((HB.out.cell (World.block_lt_of_cell? w _ hw745_1)).trans hw745_1), ((HB.out.cell (World.block_lt_of_cell? w _ hw745_2)).trans hw745_2)⟩ (fun hHeld => ?_); refine with_tabW spec_FirstFit.tab12 spec_FirstFit.bits12 (fun HT_ HW_ => ?_)
                                generalize w56.drew = w57 at HO743 BK713 HB HL744_2 HR744_2 hx744_0 hx744_1 hx744_2 hx745_0 hx745_1 hx745_2 hHeld ⊢
                                refine pS 0 51 ?_
                                refine pS 1 52 ?_
                                refine pS 2 53 ?_
                                refine pS 3 54 ?_
                                refine pS 4 55 ?_
                                refine pS 6 57 ?_
                                refine pS 7 58 ?_
                                refine pS 8 59 ?_
                                refine tS 5 56 ?_
                                refine tS 9 60 ?_
                                refine one_ (i := 10) (N := some 61) #[true, true, true, true, true, true, true, true, true, true, true, false, false] rfl rfl (one_of HT_.out (by kernel_rfl)) (by decide) (fun K hK => ?_)
                                refine goes_ Try.func80 (by kernel_rfl) rfl #[.agg #[.int .i64 ((rd_T62 y741 x7_3).f0), .int .i64 ((rd_T62 y741 x7_3).f1), .slice A744_2 ((rd_T62 y741 x7_3).f2).length c744_2], .agg #[.int .i64 ((rd_T80 l1 x6_2).f0), .int .i64 ((rd_T80 l1 x6_2).f1), .int .i64 ((rd_T80 l1 x6_2).f2)]] (by rfl) rfl rfl zf44_4 ?_
                                with_reducible refine (spec_l07With.calls ((rd_T62 y741 x7_3).f0) ((rd_T62 y741 x7_3).f1) _ _ ((rd_T62 y741 x7_3).f2) ((rd_T80 l1 x6_2).f0) ((rd_T80 l1 x6_2).f1) ((rd_T80 l1 x6_2).f2) t746 t747 t748 _ ?side1 ?side2 A52.out).mono ?_
                                (case side1 => repeat (first | exact zf44_14 | (with_reducible refine Kd.C_alloc ?_ _) | (with_reducible refine Kd.C_drewN ?_ _) | (with_reducible refine Kd.C_drew ?_)))
                                (case side2 => exact HC744_2.out)
                                rintro e w59 ⟨v749, rfl, ho0, hb⟩
                                have HS0_ := (hb.cell (World.block_lt_of_cell? _ _ (hHeld.1))).trans (hHeld.1)
                                have HS1_ := (hb.cell (World.block_lt_of_cell? _ _ (hHeld.2.1))).trans (hHeld.2.1)
                                have HS2_ := (hb.cell (World.block_lt_of_cell? _ _ (hHeld.2.2.1))).trans (hHeld.2.2.1)
                                refine ⟨_, rfl, ?_⟩
                                have n0_ := Aside0.mk (Kd.N_elder' (by (with_reducible repeat (first | apply Kd.N_alloc | apply Kd.N_drewN | apply Kd.N_drew)); exact HO743.out) (Kd.R_base ho0) hb)
                                have n1_ := Aside0.mk (Kd.V_elder' (by (with_reducible repeat (first | apply Kd.V_alloc | apply Kd.V_drewN | apply Kd.V_drew)); exact HL744_2.out) (Kd.R_base ho0) hb)
                                have n2_ := Aside0.mk (Kd.R_lower (Kd.R_newM (M := fun k_ => (w.heap.size ≤ k_)) ho0 (below_size zf44_0) (fun k_ h_ => h_)) (below_size zf44_0))
                                have n3_ := Aside0.mk (blk_below (g := gb713) (o := .cells #[.int .i64 a0_0, .int .i64 a0_1] 49 (0, 0)) zf44_2 hb)
                                have n4_ := Aside0.mk (Kd.C_below zf44_14 hb)
                                have n5_ := Aside0.mk (below_step zf44_0 hb)
                                clear HO743
                                clear HL744_2
                                clear BK713
                                clear HR744_2
                                clear HB
                                have HO743 := n0_
                                have HL744_2 := n1_
                                have HO750 := n2_
                                have BK713 := n3_
                                have HR744_2 := n4_
                                have HB := n5_
                                clear n0_ n1_ n2_ n3_ n4_ n5_
                                (try clear hb)
                                (try clear hb2)
                                (try clear hk)
                                (try clear hi)
                                (try clear ho0)
                                have p53 : 0 ≤ (x7_3 : Int) := of_decide_eq_true zf44_1
                                have q53 : (x7_3 : Int) < ((y741.length : Int) : Int) := of_decide_eq_true zf44_1
                                obtain ⟨go53, co53, eo53, gb53, gl53, cl53, HG53⟩ := Kd.N_form HO743.out (by omega)
                                (first | cases eo53 | (injection eo53 with ea_ en_ ec_; (first | subst ea_ | (injection ea_ with ea_; subst ea_)); subst ec_; clear en_))
                                have GB53 := Aside0.mk gb53
                                have GG53 := Aside0.mk HG53
                                clear gb53 gl53 HG53
                                (first | simp only [add_plain] at hx744_0 | skip)
                                (first | simp only [add_plain] at hx744_1 | skip)
                                (first | simp only [add_plain] at hx744_2 | skip)
                                obtain ⟨ce53, hcl53, hM53, hcc53, hfr53⟩ := Kd.N_elem HO743.out z62 (x7_3 : Int) p53 q53
                                obtain ⟨ua53_2, uc53_2, rfl, ul53_2, ge53_2⟩ := k62_openF hM53
                                have hx53_0 : World.cell? _ ⟨go53, (x7_3 : Int).toNat * 3, none⟩ = some (.int .i64 ((rd_T62 y741 x7_3).f0)) := hcc53 0 _ rfl
                                have hx53_1 : World.cell? _ ⟨go53, (x7_3 : Int).toNat * 3 + 1, none⟩ = some (.int .i64 ((rd_T62 y741 x7_3).f1)) := hcc53 1 _ rfl
                                have hx53_2 : World.cell? _ ⟨go53, (x7_3 : Int).toNat * 3 + 2, none⟩ = some (.slice ua53_2 ((rd_T62 y741 x7_3).f2).length uc53_2) := hcc53 2 _ rfl
                                have hf53_0 : World.frozen? _ ⟨go53, (x7_3 : Int).toNat * 3, none⟩ = false := hfr53 0
                                have hf53_1 : World.frozen? _ ⟨go53, (x7_3 : Int).toNat * 3 + 1, none⟩ = false := hfr53 1
                                have hf53_2 : World.frozen? _ ⟨go53, (x7_3 : Int).toNat * 3 + 2, none⟩ = false := hfr53 2
                                clear hcl53 hcc53 hfr53 hM53
                                replace p53 := eq_true p53
                                replace q53 := eq_true q53
                                obtain ⟨Ao749, co749, eo749⟩ := Kd.R_slice HO750.out
                                subst eo749
                                have HX60 := Aside0.mk (show Kd.N k62 62 _ w.heap.size (fun k_ => (w.heap.size ≤ k_) ∧ some k_ ≠ ((.slice Ao749 t748.length co749) : Value).ownBlock ∧ k_ ≠ gb713) (.slice (some ⟨go53, 0, none⟩) y741.length co58) y741 from (Kd.N_mono (HO743.out) (fun k_ hk => ⟨hk.1.1, ⟨hk.2, hk.1.2⟩⟩)))
                                replace HX60 := Aside0.mk (show Kd.N k62 62 _ w.heap.size (fun k_ => (w.heap.size ≤ k_) ∧ k_ ≠ gb713) (.slice (some ⟨go53, 0, none⟩) y741.length co58) y741 from Kd.N_mono HX60.out (fun k_ hk => ⟨hk.1, hk.2.2⟩))
                                obtain ⟨ce60, hcl60, hM60, hcc60, hfr60⟩ := Kd.N_elem HX60.out z62 (x7_3 : Int) (of_decide_eq_true zf44_1) zf44_17
                                obtain ⟨ua60_2, uc60_2, rfl, ul60_2, ge60_2⟩ := k62_openF hM60
                                have HP60 := (Kd.N_seg HX60.out (x7_3 : Int) (of_decide_eq_true zf44_1) zf44_17 (seg := [.int .i64 t746, .int .i64 t747, (.slice Ao749 t748.length co749)]) (j := 0) hcl60 hcc60 (show 3 ≤ 3 from by decide) (x' := (⟨t746, t747, t748⟩ : S62)) (k62_mkF _ _ (⟨t746, t747, t748⟩ : S62) (Kd.R_reads' (Kd.R_mono (ok' := (fun k_ => ((fun k_ => (w.heap.size ≤ k_) ∧ k_ ≠ gb713)) k_ ∧ k_ ≠ go53)) (Kd.R_types (Kd.R_apart' (HO750.out) (Kd.N_typed HO743.out) (by decide)) BK713.out (by decide)) (fun k_ hk => ⟨⟨hk.1.1.1, hk.2⟩, fun e_ => (hk.1.2) (by rw [e_]; rfl)⟩))).2.1 (Kd.R_F (Kd.R_mono (ok' := (fun k_ => ((fun k_ => (w.heap.size ≤ k_) ∧ k_ ≠ gb713)) k_ ∧ k_ ≠ go53)) (Kd.R_types (Kd.R_apart' (HO750.out) (Kd.N_typed HO743.out) (by decide)) BK713.out (by decide)) (fun k_ hk => ⟨⟨hk.1.1.1, hk.2⟩, fun e_ => (hk.1.2) (by rw [e_]; rfl)⟩)))) (fun _ hk => hk)).1
                                rw [← Ny751.out] at HP60
                                have HQ60 := Aside0.mk HP60
                                clear hcl60 hcc60 hfr60 hM60 HP60
                                refine hK.out _ _ ⟨HS0_, HS1_, HS2_, ((HB.out.cell (World.block_lt_of_cell? w _ hw745_0)).trans hw745_0), ((HB.out.cell (World.block_lt_of_cell? w _ hw745_1)).trans hw745_1), ((HB.out.cell (World.block_lt_of_cell? w _ hw745_2)).trans hw745_2)⟩ (fun hHeld => ?_)
                                clear hK K
                                refine norm_ (a' := ?_) ?_ ?_
                                rotate_left
                                · show Act.put _ (some 61) _ = _
                                  simp only [Act.put, List.setIfInBounds_toArray, List.set_cons_zero, List.set_cons_succ, i64_w, i32_w]
                                  rfl
                                refine pS 11 62 ?_
                                refine last_ (i := 12) (N := none) #[true, true, true, true, true, true, true, true, true, true, true, true, true] rfl rfl (one_of HT_.out (by kernel_rfl)) (by decide) (fun K hK => ?_)
                                refine skip_ (w1 := ?_) (by rfl) rfl ?_ ?_
                                rotate_left
                                · go_simp
                                  rfl
                                refine hK.out _ _ ?_
                                clear hK K
                                refine done_ (done_of HT_.out (by kernel_rfl)) ?_
                                try go_wp2
                                go_roundg k3
                                case measure => have := HJ2.out; have := HK2.out; have := HK3.out; omega
                                case rel => exact ⟨(y751), (wrap64 (x6_2 + 1)), zf44_7, H', ⟨by have := HJ2.out; have := HK2.out; have := HK3.out; omega⟩, ⟨by (with_reducible repeat (first | apply Kd.N_alloc | apply Kd.N_drewN | apply Kd.N_drew)); exact HQ60.out⟩, ⟨by (with_reducible repeat (first | refine blk_drewN ?_ _ | refine blk_drew ?_ | refine blk_alloc ?_ _)); refine blk_far ?_ zf44_9 _; (with_reducible repeat (first | refine blk_drewN ?_ _ | refine blk_drew ?_ | refine blk_alloc ?_ _)); refine blk_far ?_ zf44_9 _; (with_reducible repeat (first | refine blk_drewN ?_ _ | refine blk_drew ?_ | refine blk_alloc ?_ _)); refine blk_far ?_ zf44_9 _; (with_reducible repeat (first | refine blk_drewN ?_ _ | refine blk_drew ?_ | refine blk_alloc ?_ _)); exact BK713.out⟩, ⟨by repeat (first | (with_reducible first | exact HB.out | apply below_alloc | apply pw_below_drewN | apply below_drew1 | refine below_set ?_ GB53.out | refine below_set ?_ GB53.out | refine below_set ?_ GB53.out | refine below_set ?_ GE713.out) | exact HB.out)⟩⟩
                              · rw [if_neg c51] at H
                                exact absurd H (by simp)
                            · rw [if_neg c50] at H
                              exact absurd H (by simp)
                          · rw [if_neg c49] at H
                            exact absurd H (by simp)
                        · rw [if_neg c48] at H
                          exact absurd H (by simp)
                      · rw [if_neg c47] at H
                        exact absurd H (by simp)
                    · rw [if_neg c46] at H
                      have c46b0 : (x7_3 == (x5_2.length : Int)) = false := beq_eq_false_iff_ne.mpr c46
                      have c46b1 : (x7_3 != (x5_2.length : Int)) = true := bne_iff_ne.mpr c46
                      by_cases c61 : 0 ≤ x7_3
                      · rw [if_pos c61] at H
                        exact absurd H (by simp)
                      · rw [if_neg c61] at H
                        exact absurd H (by simp)
            · rw [if_neg c15] at H
              have c15b0 : decide (x6_2 < (l1.length : Int)) = false := decide_eq_false c15
              clear c15
              obtain rfl := Option.some.inj H
              go_wp2
              go_ret
              exact ⟨_, by first | rfl | (simp [errW_none, errW_some] <;> rfl) | (simp [*, errW_none, errW_some] <;> rfl), by (with_reducible repeat (first | apply Kd.N_alloc | apply Kd.N_drewN | apply Kd.N_drew)); exact Kd.N_mono HO_5.out (fun _ hk => hk.1), by repeat (first | (with_reducible first | exact HB.out | apply below_alloc | apply pw_below_drewN | apply below_drew1 | refine below_set ?_ GE713.out) | exact HB.out)⟩

end Go.Proofs.Ytnldmnlfocigaaa.F

-- PRINTED by print.py (a twelfth state) out of the translation. Not trusted: Lean checks it.
import Derived.Test.YtnldmnlfocigaaaF
import Derived.Test.YtnldmnlfocigaaaF33
import Derived.Test.YtnldmnlfocigaaaF51
import Derived.Test.YtnldmnlfocigaaaF74
import Derived.Test.YtnldmnlfocigaaaF75
namespace Go.Proofs.Ytnldmnlfocigaaa.F
open Go.Proofs.Ytnldmnlfocigaaa.Opn
open Go.RowKit Go.Proofs.YtnldmnlfocigaaaW.PrintWords Go.Proofs.YtnldmnlfocigaaaW.PrintLast
set_option linter.unusedVariables false
set_option linter.unusedSimpArgs false

theorem zf42_10 {p : Prop} (h : p := by rw [hg]; exact Nat.ne_of_gt (blk_lt (g := gb664) (o := .cells #[.int .i64 a0_0, .int .i64 a0_1] 49 (0, 0)) zf42_2)) : p := h
theorem zf42_9 {p : Prop} (h : p := by rw [hg]; exact Nat.ne_of_lt (blk_lt (g := gb664) (o := .cells #[.int .i64 a0_0, .int .i64 a0_1] 49 (0, 0)) zf42_2)) : p := h
theorem zf42_8 {p : Prop} (h : p := by repeat (first | (with_reducible first | exact HB.out | apply below_alloc | apply pw_below_drewN | apply below_drew1) | exact HB.out)) : p := h
theorem zf42_7 {p : Prop} (h : p := by have := World.block_lt_of_cell? _ _ hx677_0; first | rwa [add_block] at this | exact this) : p := h
theorem zf42_6 {p : Prop} (h : p := by first | (rw [add_block]; exact hn677_2) | (show (Addr.add _ _).block ≠ _; rw [add_block]; exact hn677_2) | exact hn677_2) : p := h
theorem zf42_5 {p : Prop} (h : p := by first | (rw [add_block]; exact hn677_1) | (show (Addr.add _ _).block ≠ _; rw [add_block]; exact hn677_1) | exact hn677_1) : p := h
theorem zf42_4 {p : Prop} (h : p := by first | (rw [add_block]; exact hn677_0) | (show (Addr.add _ _).block ≠ _; rw [add_block]; exact hn677_0) | exact hn677_0) : p := h
theorem zf42_3 {p : Prop} (h : p := by first | rfl | (simp; done) | (simp [*]; done)) : p := h
theorem zf42_2 {p : Prop} (h : p := by (with_reducible repeat (first | refine blk_drewN ?_ _ | refine blk_drew ?_ | refine blk_alloc ?_ _)); exact BK664.out) : p := h
theorem zf42_1 {p : Prop} (h : p := by first | (with_reducible assumption) | assumption) : p := h
theorem zf42_0 {p : Prop} (h : p := by repeat (first | (with_reducible first | exact HB.out | apply below_alloc | apply pw_below_drewN | apply below_drew1 | refine below_set ?_ GE664.out) | exact HB.out)) : p := h
/-! ### spec_BoxesOk: function 42 -/
mutual
def spec_BoxesOk.j0 : Nat → List (S80) → List (S62) → Bool → Int → Int → Option (Bool)
 | 0, _, _, _, _, _ => none
 | k + 1, x1, x2, x22, x665000, x665001 => if x22 = true then (some false) else (spec_BoxesOk.l0 k x1 x2 0 0 x665000 x665001)
def spec_BoxesOk.l0 : Nat → List (S80) → List (S62) → Int → Int → Int → Int → Option (Bool)
 | 0, _, _, _, _, _, _ => none
 | k + 1, x1, x2, x7, x8, x665000, x665001 => if x8 < (x2.length : Int) then (if 0 ≤ x8 then (if (((rd_T62 x2 x8).f2).length : Int) = 0 then (spec_BoxesOk.j2 k x1 x2 x7 x8 true x665000 x665001) else (if (((rd_T62 x2 x8).f2).length : Int) > x665001 then (spec_BoxesOk.j2 k x1 x2 x7 x8 true x665000 x665001) else (spec_BoxesOk.j2 k x1 x2 x7 x8 (decide (((rd_T62 x2 x8).f1) > x665000)) x665000 x665001))) else (none)) else (spec_BoxesOk.l2 k x1 x2 x7 (([] : List Int)) 0)
def spec_BoxesOk.j2 : Nat → List (S80) → List (S62) → Int → Int → Bool → Int → Int → Option (Bool)
 | 0, _, _, _, _, _, _, _ => none
 | k + 1, x1, x2, x7, x8, x56, x665000, x665001 => if x56 = true then (some false) else (spec_BoxesOk.l1 k x1 x2 x7 x8 0 0 x665000 x665001)
def spec_BoxesOk.l1 : Nat → List (S80) → List (S62) → Int → Int → Int → Int → Int → Int → Option (Bool)
 | 0, _, _, _, _, _, _, _, _ => none
 | k + 1, x1, x2, x7, x8, x9, x10, x665000, x665001 => if 0 ≤ x8 then (if x8 < (x2.length : Int) then (if x10 < (((rd_T62 x2 x8).f2).length : Int) then (if 0 ≤ x10 then ((spec_l07Piece.f k x1 (rd ((rd_T62 x2 x8).f2) x10)).bind fun bt673 => (if bt673.1 = 0 then (some false) else (if bt673.2.2 = ((rd_T62 x2 x8).f0) then (spec_BoxesOk.l1 k x1 x2 (wrap64 (x7 + 1)) x8 (wrap64 (x9 + bt673.2.1)) (wrap64 (x10 + 1)) x665000 x665001) else (some false)))) else (none)) else (if x9 = ((rd_T62 x2 x8).f1) then (spec_BoxesOk.l0 k x1 x2 x7 (wrap64 (x8 + 1)) x665000 x665001) else (some false))) else (none)) else (none)
def spec_BoxesOk.l2 : Nat → List (S80) → List (S62) → Int → List Int → Int → Option (Bool)
 | 0, _, _, _, _, _ => none
 | k + 1, x1, x2, x7, x12, x13 => if x13 < (x2.length : Int) then (spec_BoxesOk.l3 k x1 x2 x7 x12 x13 0) else (some (x7 == (x1.length : Int)))
def spec_BoxesOk.l3 : Nat → List (S80) → List (S62) → Int → List Int → Int → Int → Option (Bool)
 | 0, _, _, _, _, _, _ => none
 | k + 1, x1, x2, x7, x12, x13, x14 => if 0 ≤ x13 then (if x13 < (x2.length : Int) then (if x14 < (((rd_T62 x2 x13).f2).length : Int) then (if 0 ≤ x14 then ((spec_l03Has.f k x12 (rd ((rd_T62 x2 x13).f2) x14)).bind fun t685 => (if t685 = true then (some false) else (if x12.length < 17592186044416 then (spec_BoxesOk.l3 k x1 x2 x7 (x12 ++ [rd ((rd_T62 x2 x13).f2) x14]) x13 (wrap64 (x14 + 1))) else (none)))) else (none)) else (spec_BoxesOk.l2 k x1 x2 x7 x12 (wrap64 (x13 + 1)))) else (none)) else (none)
end
def spec_BoxesOk.f (k : Nat) (a0_0 : Int) (a0_1 : Int) (l1 : List (S80)) (l2 : List (S62)) : Option (Bool) := (spec_LimitsOk.f a0_0 a0_1).bind fun t665 => (if t665 = true then ((spec_PiecesOk.f k l1).bind fun t666 => (spec_BoxesOk.j0 k l1 l2 (!t666) a0_0 a0_1)) else (spec_BoxesOk.j0 k l1 l2 true a0_0 a0_1))
theorem spec_BoxesOk.mono_l : ∀ k, (∀ y0 y1 y2 y3 y4, LeO (spec_BoxesOk.j0 k y0 y1 y2 y3 y4) (spec_BoxesOk.j0 (k + 1) y0 y1 y2 y3 y4)) ∧ (∀ y0 y1 y2 y3 y4 y5, LeO (spec_BoxesOk.l0 k y0 y1 y2 y3 y4 y5) (spec_BoxesOk.l0 (k + 1) y0 y1 y2 y3 y4 y5)) ∧ (∀ y0 y1 y2 y3 y4 y5 y6, LeO (spec_BoxesOk.j2 k y0 y1 y2 y3 y4 y5 y6) (spec_BoxesOk.j2 (k + 1) y0 y1 y2 y3 y4 y5 y6)) ∧ (∀ y0 y1 y2 y3 y4 y5 y6 y7, LeO (spec_BoxesOk.l1 k y0 y1 y2 y3 y4 y5 y6 y7) (spec_BoxesOk.l1 (k + 1) y0 y1 y2 y3 y4 y5 y6 y7)) ∧ (∀ y0 y1 y2 y3 y4, LeO (spec_BoxesOk.l2 k y0 y1 y2 y3 y4) (spec_BoxesOk.l2 (k + 1) y0 y1 y2 y3 y4)) ∧ (∀ y0 y1 y2 y3 y4 y5, LeO (spec_BoxesOk.l3 k y0 y1 y2 y3 y4 y5) (spec_BoxesOk.l3 (k + 1) y0 y1 y2 y3 y4 y5))
 | 0 => ⟨fun _ _ _ _ _ r h => by simp [spec_BoxesOk.j0] at h, fun _ _ _ _ _ _ r h => by simp [spec_BoxesOk.l0] at h, fun _ _ _ _ _ _ _ r h => by simp [spec_BoxesOk.j2] at h, fun _ _ _ _ _ _ _ _ r h => by simp [spec_BoxesOk.l1] at h, fun _ _ _ _ _ r h => by simp [spec_BoxesOk.l2] at h, fun _ _ _ _ _ _ r h => by simp [spec_BoxesOk.l3] at h⟩
 | k + 1 => by
  obtain ⟨ih0, ih1, ih2, ih3, ih4, ih5⟩ := spec_BoxesOk.mono_l k
  refine ⟨?_, ?_, ?_, ?_, ?_, ?_⟩
  ·
   intro y0 y1 y2 y3 y4
   unfold spec_BoxesOk.j0
   repeat' first
   | (with_reducible exact ih0 _ _ _ _ _)
   | (with_reducible exact ih1 _ _ _ _ _ _)
   | (with_reducible exact ih2 _ _ _ _ _ _ _)
   | (with_reducible exact ih3 _ _ _ _ _ _ _ _)
   | (with_reducible exact ih4 _ _ _ _ _)
   | (with_reducible exact ih5 _ _ _ _ _ _)
   | (with_reducible exact spec_PiecesOk.mono _ _)
   | (with_reducible exact spec_l03Has.mono _ _ _)
   | (with_reducible exact spec_l07Piece.mono _ _ _)
   | (with_reducible exact LeO.refl _)
   | (with_reducible exact LeO.none _)
   | (with_reducible refine LeO.ite ?_ ?_)
   | (with_reducible refine LeO.bind ?_ (fun _ => ?_))
   | exact ih0 _ _ _ _ _
   | exact ih1 _ _ _ _ _ _
   | exact ih2 _ _ _ _ _ _ _
   | exact ih3 _ _ _ _ _ _ _ _
   | exact ih4 _ _ _ _ _
   | exact ih5 _ _ _ _ _ _
   | exact spec_PiecesOk.mono _ _
   | exact spec_l03Has.mono _ _ _
   | exact spec_l07Piece.mono _ _ _
   | exact LeO.none _
   | refine LeO.ite ?_ ?_
   | refine LeO.bind ?_ (fun _ => ?_)
  ·
   intro y0 y1 y2 y3 y4 y5
   unfold spec_BoxesOk.l0
   repeat' first
   | (with_reducible exact ih0 _ _ _ _ _)
   | (with_reducible exact ih1 _ _ _ _ _ _)
   | (with_reducible exact ih2 _ _ _ _ _ _ _)
   | (with_reducible exact ih3 _ _ _ _ _ _ _ _)
   | (with_reducible exact ih4 _ _ _ _ _)
   | (with_reducible exact ih5 _ _ _ _ _ _)
   | (with_reducible exact spec_PiecesOk.mono _ _)
   | (with_reducible exact spec_l03Has.mono _ _ _)
   | (with_reducible exact spec_l07Piece.mono _ _ _)
   | (with_reducible exact LeO.refl _)
   | (with_reducible exact LeO.none _)
   | (with_reducible refine LeO.ite ?_ ?_)
   | (with_reducible refine LeO.bind ?_ (fun _ => ?_))
   | exact ih0 _ _ _ _ _
   | exact ih1 _ _ _ _ _ _
   | exact ih2 _ _ _ _ _ _ _
   | exact ih3 _ _ _ _ _ _ _ _
   | exact ih4 _ _ _ _ _
   | exact ih5 _ _ _ _ _ _
   | exact spec_PiecesOk.mono _ _
   | exact spec_l03Has.mono _ _ _
   | exact spec_l07Piece.mono _ _ _
   | exact LeO.none _
   | refine LeO.ite ?_ ?_
   | refine LeO.bind ?_ (fun _ => ?_)
  ·
   intro y0 y1 y2 y3 y4 y5 y6
   unfold spec_BoxesOk.j2
   repeat' first
   | (with_reducible exact ih0 _ _ _ _ _)
   | (with_reducible exact ih1 _ _ _ _ _ _)
   | (with_reducible exact ih2 _ _ _ _ _ _ _)
   | (with_reducible exact ih3 _ _ _ _ _ _ _ _)
   | (with_reducible exact ih4 _ _ _ _ _)
   | (with_reducible exact ih5 _ _ _ _ _ _)
   | (with_reducible exact spec_PiecesOk.mono _ _)
   | (with_reducible exact spec_l03Has.mono _ _ _)
   | (with_reducible exact spec_l07Piece.mono _ _ _)
   | (with_reducible exact LeO.refl _)
   | (with_reducible exact LeO.none _)
   | (with_reducible refine LeO.ite ?_ ?_)
   | (with_reducible refine LeO.bind ?_ (fun _ => ?_))
   | exact ih0 _ _ _ _ _
   | exact ih1 _ _ _ _ _ _
   | exact ih2 _ _ _ _ _ _ _
   | exact ih3 _ _ _ _ _ _ _ _
   | exact ih4 _ _ _ _ _
   | exact ih5 _ _ _ _ _ _
   | exact spec_PiecesOk.mono _ _
   | exact spec_l03Has.mono _ _ _
   | exact spec_l07Piece.mono _ _ _
   | exact LeO.none _
   | refine LeO.ite ?_ ?_
   | refine LeO.bind ?_ (fun _ => ?_)
  ·
   intro y0 y1 y2 y3 y4 y5 y6 y7
   unfold spec_BoxesOk.l1
   repeat' first
   | (with_reducible exact ih0 _ _ _ _ _)
   | (with_reducible exact ih1 _ _ _ _ _ _)
   | (with_reducible exact ih2 _ _ _ _ _ _ _)
   | (with_reducible exact ih3 _ _ _ _ _ _ _ _)
   | (with_reducible exact ih4 _ _ _ _ _)
   | (with_reducible exact ih5 _ _ _ _ _ _)
   | (with_reducible exact spec_PiecesOk.mono _ _)
   | (with_reducible exact spec_l03Has.mono _ _ _)
   | (with_reducible exact spec_l07Piece.mono _ _ _)
   | (with_reducible exact LeO.refl _)
   | (with_reducible exact LeO.none _)
   | (with_reducible refine LeO.ite ?_ ?_)
   | (with_reducible refine LeO.bind ?_ (fun _ => ?_))
   | exact ih0 _ _ _ _ _
   | exact ih1 _ _ _ _ _ _
   | exact ih2 _ _ _ _ _ _ _
   | exact ih3 _ _ _ _ _ _ _ _
   | exact ih4 _ _ _ _ _
   | exact ih5 _ _ _ _ _ _
   | exact spec_PiecesOk.mono _ _
   | exact spec_l03Has.mono _ _ _
   | exact spec_l07Piece.mono _ _ _
   | exact LeO.none _
   | refine LeO.ite ?_ ?_
   | refine LeO.bind ?_ (fun _ => ?_)
  ·
   intro y0 y1 y2 y3 y4
   unfold spec_BoxesOk.l2
   repeat' first
   | (with_reducible exact ih0 _ _ _ _ _)
   | (with_reducible exact ih1 _ _ _ _ _ _)
   | (with_reducible exact ih2 _ _ _ _ _ _ _)
   | (with_reducible exact ih3 _ _ _ _ _ _ _ _)
   | (with_reducible exact ih4 _ _ _ _ _)
   | (with_reducible exact ih5 _ _ _ _ _ _)
   | (with_reducible exact spec_PiecesOk.mono _ _)
   | (with_reducible exact spec_l03Has.mono _ _ _)
   | (with_reducible exact spec_l07Piece.mono _ _ _)
   | (with_reducible exact LeO.refl _)
   | (with_reducible exact LeO.none _)
   | (with_reducible refine LeO.ite ?_ ?_)
   | (with_reducible refine LeO.bind ?_ (fun _ => ?_))
   | exact ih0 _ _ _ _ _
   | exact ih1 _ _ _ _ _ _
   | exact ih2 _ _ _ _ _ _ _
   | exact ih3 _ _ _ _ _ _ _ _
   | exact ih4 _ _ _ _ _
   | exact ih5 _ _ _ _ _ _
   | exact spec_PiecesOk.mono _ _
   | exact spec_l03Has.mono _ _ _
   | exact spec_l07Piece.mono _ _ _
   | exact LeO.none _
   | refine LeO.ite ?_ ?_
   | refine LeO.bind ?_ (fun _ => ?_)
  ·
   intro y0 y1 y2 y3 y4 y5
   unfold spec_BoxesOk.l3
   repeat' first
   | (with_reducible exact ih0 _ _ _ _ _)
   | (with_reducible exact ih1 _ _ _ _ _ _)
   | (with_reducible exact ih2 _ _ _ _ _ _ _)
   | (with_reducible exact ih3 _ _ _ _ _ _ _ _)
   | (with_reducible exact ih4 _ _ _ _ _)
   | (with_reducible exact ih5 _ _ _ _ _ _)
   | (with_reducible exact spec_PiecesOk.mono _ _)
   | (with_reducible exact spec_l03Has.mono _ _ _)
   | (with_reducible exact spec_l07Piece.mono _ _ _)
   | (with_reducible exact LeO.refl _)
   | (with_reducible exact LeO.none _)
   | (with_reducible refine LeO.ite ?_ ?_)
   | (with_reducible refine LeO.bind ?_ (fun _ => ?_))
   | exact ih0 _ _ _ _ _
   | exact ih1 _ _ _ _ _ _
   | exact ih2 _ _ _ _ _ _ _
   | exact ih3 _ _ _ _ _ _ _ _
   | exact ih4 _ _ _ _ _
   | exact ih5 _ _ _ _ _ _
   | exact spec_PiecesOk.mono _ _
   | exact spec_l03Has.mono _ _ _
   | exact spec_l07Piece.mono _ _ _
   | exact LeO.none _
   | refine LeO.ite ?_ ?_
   | refine LeO.bind ?_ (fun _ => ?_)
theorem spec_BoxesOk.mono : ∀ a0 a1 a2 a3 k, LeO (spec_BoxesOk.f k a0 a1 a2 a3) (spec_BoxesOk.f (k + 1) a0 a1 a2 a3) := by
 intro a0 a1 a2 a3 k
 obtain ⟨ih0, ih1, ih2, ih3, ih4, ih5⟩ := spec_BoxesOk.mono_l k
 unfold spec_BoxesOk.f
 repeat' first
   | (with_reducible exact ih0 _ _ _ _ _)
   | (with_reducible exact ih1 _ _ _ _ _ _)
   | (with_reducible exact ih2 _ _ _ _ _ _ _)
   | (with_reducible exact ih3 _ _ _ _ _ _ _ _)
   | (with_reducible exact ih4 _ _ _ _ _)
   | (with_reducible exact ih5 _ _ _ _ _ _)
   | (with_reducible exact spec_PiecesOk.mono _ _)
   | (with_reducible exact spec_l03Has.mono _ _ _)
   | (with_reducible exact spec_l07Piece.mono _ _ _)
   | (with_reducible exact LeO.refl _)
   | (with_reducible exact LeO.none _)
   | (with_reducible refine LeO.ite ?_ ?_)
   | (with_reducible refine LeO.bind ?_ (fun _ => ?_))
   | exact ih0 _ _ _ _ _
   | exact ih1 _ _ _ _ _ _
   | exact ih2 _ _ _ _ _ _ _
   | exact ih3 _ _ _ _ _ _ _ _
   | exact ih4 _ _ _ _ _
   | exact ih5 _ _ _ _ _ _
   | exact spec_PiecesOk.mono _ _
   | exact spec_l03Has.mono _ _ _
   | exact spec_l07Piece.mono _ _ _
   | exact LeO.none _
   | refine LeO.ite ?_ ?_
   | refine LeO.bind ?_ (fun _ => ?_)
set_option maxHeartbeats 8000000 in
set_option maxRecDepth 100000 in
theorem spec_BoxesOk.calls (k : Nat) (a0_0 : Int) (a0_1 : Int) (A1 : Option Addr) (c1 : Nat) (l1 : List (S80)) (A2 : Option Addr) (c2 : Nat) (l2 : List (S62)) (r : Bool) (w : World) (hr1 : Kd.C k80 w A1 l1.length l1) (hc1 : l1.length ≤ c1) (hr2 : Kd.C k62 w A2 l2.length l2) (hc2 : l2.length ≤ c2) (h : spec_BoxesOk.f k a0_0 a0_1 l1 l2 = some r) :
  Calls Try.prog 42 #[.agg #[.int .i64 a0_0, .int .i64 a0_1], .slice A1 l1.length c1, .slice A2 l2.length c2] w fun e w' => e = .returned (.bool r) ∧ Below w.heap.size w w' := by
 have hu49 := Try.underlying49
 have hu80 := Try.underlying80
 have HR1 := Aside0.mk hr1
 have HC1 := Aside0.mk hc1
 clear hr1 hc1
 have HR2 := Aside0.mk hr2
 have HC2 := Aside0.mk hc2
 clear hr2 hc2
 have HB := Aside0.mk (Below.refl w.heap.size w)
 have H : ((spec_LimitsOk.f a0_0 a0_1).bind fun t665 => (if t665 = true then ((spec_PiecesOk.f k l1).bind fun t666 => (spec_BoxesOk.j0 k l1 l2 (!t666) a0_0 a0_1)) else (spec_BoxesOk.j0 k l1 l2 true a0_0 a0_1))) = some r := h
 clear h
 have HC4 := Aside0.mk H
 clear H
 go_enter Try.func42, Try.ntmps42
 go_upto_region 1 with ((with_reducible refine gate_dst (N := 3) rfl ?_); (try (refine gate_guard (by rfl) ?_; dsimp only)); refine box_event ?hg (N := 3) ?hd (cs := #[.int .i64 a0_0, .int .i64 a0_1]) (t := 49) ?hr ?_; (case hd => rfl); (case hg => rfl); (case hr => first | (go_simp; done) | (go_simp; rfl)); intro gb664 hg w5 hbox hb; have n0_ := Aside0.mk (below_step zf42_8 hb); have n1_ := Aside0.mk (hbox); have n2_ := Aside0.mk ((by rw [hg]; exact (below_size zf42_8) : w.heap.size ≤ gb664)); have n3_ := Aside0.mk ((by rw [hg]; exact (below_size zf42_8) : w.heap.size ≤ gb664)); clear HB; have HB := n0_; have BK664 := n1_; have GW664 := n2_; have GE664 := n3_; clear n0_ n1_ n2_ n3_; clear hb hbox hg)
 (try simp only [Act.put, List.setIfInBounds_toArray, List.set_cons_zero, List.set_cons_succ])
 go_cut [22] (fun v22 wc => ∃ (kq : Nat) (x22_3 : Bool), v22 = .bool x22_3 ∧ Aside0 (spec_BoxesOk.j0 kq l1 l2 x22_3 a0_0 a0_1 = some r) ∧ Aside0 (kq ≤ k) ∧ Aside0 (wc.heap[gb664]? = some (.cells #[.int .i64 a0_0, .int .i64 a0_1] 49 (0, 0))) ∧ Aside0 (Below w.heap.size w wc))
 case first =>
  have H := HC4.out
  clear HC4
  replace H := Option.bind_eq_some_iff.mp H
  obtain ⟨t665, A60, H⟩ := H
  replace H : (if t665 = true then ((spec_PiecesOk.f k l1).bind fun t666 => (spec_BoxesOk.j0 k l1 l2 (!t666) a0_0 a0_1)) else (spec_BoxesOk.j0 k l1 l2 true a0_0 a0_1)) = some r := H
  have A6 := Aside0.mk A60
  clear A60
  by_cases c7 : t665 = true
  ·
   subst c7
   have H1 : ((spec_PiecesOk.f k l1).bind fun t666 => (spec_BoxesOk.j0 k l1 l2 (!t666) a0_0 a0_1)) = some r := by rw [if_pos rfl] at H; exact H
   clear H
   have H := H1
   clear H1
   replace H := Option.bind_eq_some_iff.mp H
   obtain ⟨t666, A80, H⟩ := H
   replace H : (spec_BoxesOk.j0 k l1 l2 (!t666) a0_0 a0_1) = some r := H
   have A8 := Aside0.mk A80
   clear A80
   have H' := Aside0.mk H
   clear H
   have hcz9_0 : w5.cell? ⟨gb664, 0, none⟩ = some (.int .i64 a0_0) := (blk_cell BK664.out 0).trans rfl
   have hcz9_1 : w5.cell? ⟨gb664, 1, none⟩ = some (.int .i64 a0_1) := (blk_cell BK664.out 1).trans rfl
   have hfz9_0 := blk_frozen BK664.out 0
   have hfz9_1 := blk_frozen BK664.out 1
   go_wp2_with (first | (go_at_call 51; (with_reducible refine (spec_LimitsOk.calls a0_0 a0_1 true _ A6.out).mono ?_); rintro e w10 ⟨rfl, hb⟩; have n0_ := Aside0.mk (blk_below (g := gb664) (o := .cells #[.int .i64 a0_0, .int .i64 a0_1] 49 (0, 0)) zf42_2 hb); have n1_ := Aside0.mk (below_step zf42_0 hb); clear BK664; clear HB; have BK664 := n0_; have HB := n1_; clear n0_ n1_; (try clear hb); (try clear hb2); (try clear hk); (try clear hi)) | (go_at_call 33; (with_reducible refine (spec_PiecesOk.calls k _ _ l1 t666 _ ?side1 ?side2 A8.out).mono ?_); (case side1 => repeat (first | exact (Kd.C_below HR1.out HB.out) | (with_reducible refine Kd.C_alloc ?_ _) | (with_reducible refine Kd.C_drewN ?_ _) | (with_reducible refine Kd.C_drew ?_))); (case side2 => exact HC1.out); rintro e w' ⟨rfl, ⟨nd, rfl⟩⟩; (try first | exact ⟨rfl, _, World.drewN_drewN _ _ _⟩ | exact ⟨rfl, _, Eq.trans (World.drewN_drewN _ _ _) (congrArg (World.drewN _) (Nat.add_assoc _ _ _))⟩)))
   go_meet
   case rel => exact ⟨_, (!t666), zf42_3, H', ⟨by first | omega | exact Nat.le_refl _⟩, ⟨by (with_reducible repeat (first | refine blk_drewN ?_ _ | refine blk_drew ?_ | refine blk_alloc ?_ _)); exact BK664.out⟩, ⟨by repeat (first | (with_reducible first | exact HB.out | apply below_alloc | apply pw_below_drewN | apply below_drew1 | refine below_set ?_ GE664.out) | exact HB.out)⟩⟩
  ·
   replace c7 := Bool.eq_false_iff.mpr c7
   subst c7
   have H1 : (spec_BoxesOk.j0 k l1 l2 true a0_0 a0_1) = some r := by rw [if_neg (show ¬ (false = true) by decide)] at H; exact H
   clear H
   have H := H1
   clear H1
   have H' := Aside0.mk H
   clear H
   have hcz11_0 : w5.cell? ⟨gb664, 0, none⟩ = some (.int .i64 a0_0) := (blk_cell BK664.out 0).trans rfl
   have hcz11_1 : w5.cell? ⟨gb664, 1, none⟩ = some (.int .i64 a0_1) := (blk_cell BK664.out 1).trans rfl
   have hfz11_0 := blk_frozen BK664.out 0
   have hfz11_1 := blk_frozen BK664.out 1
   go_wp2_with (go_at_call 51; (with_reducible refine (spec_LimitsOk.calls a0_0 a0_1 false _ A6.out).mono ?_); rintro e w12 ⟨rfl, hb⟩; have n0_ := Aside0.mk (blk_below (g := gb664) (o := .cells #[.int .i64 a0_0, .int .i64 a0_1] 49 (0, 0)) zf42_2 hb); have n1_ := Aside0.mk (below_step zf42_0 hb); clear BK664; clear HB; have BK664 := n0_; have HB := n1_; clear n0_ n1_; (try clear hb); (try clear hb2); (try clear hk); (try clear hi))
   go_meet
   case rel => exact ⟨_, (true), zf42_3, H', ⟨by first | omega | exact Nat.le_refl _⟩, ⟨by (with_reducible repeat (first | refine blk_drewN ?_ _ | refine blk_drew ?_ | refine blk_alloc ?_ _)); exact BK664.out⟩, ⟨by repeat (first | (with_reducible first | exact HB.out | apply below_alloc | apply pw_below_drewN | apply below_drew1 | refine below_set ?_ GE664.out) | exact HB.out)⟩⟩
 case rest =>
  clear HC4
  try clear c1
  try clear c2
  try clear p2
  try clear c4
  try clear c7
  try clear hcz11_0
  try clear hcz11_1
  try clear hcz9_0
  try clear hcz9_1
  try clear hfz11_0
  try clear hfz11_1
  try clear hfz9_0
  try clear hfz9_1
  obtain ⟨kq, x22_3, rfl, HA, HJ3, BK664, HB⟩ := hcut
  cases kq with
  | zero => exact absurd HA.out (by simp [spec_BoxesOk.j0])
  | succ kj3 =>
   have H := HA.out
   clear HA
   simp only [spec_BoxesOk.j0] at H
   by_cases c13 : x22_3 = true
   ·
    subst c13
    have H1 : (some false) = some r := by rw [if_pos rfl] at H; exact H
    clear H
    have H := H1
    clear H1
    obtain rfl := Option.some.inj H
    go_wp2
    go_ret
    exact ⟨by first | rfl | (simp [errW_none, errW_some] <;> rfl) | (simp [*, errW_none, errW_some] <;> rfl), by repeat (first | (with_reducible first | exact HB.out | apply below_alloc | apply pw_below_drewN | apply below_drew1 | refine below_set ?_ GE664.out) | exact HB.out)⟩
   ·
    replace c13 := Bool.eq_false_iff.mpr c13
    subst c13
    have H1 : (spec_BoxesOk.l0 kj3 l1 l2 0 0 a0_0 a0_1) = some r := by rw [if_neg (show ¬ (false = true) by decide)] at H; exact H
    clear H
    have H := H1
    clear H1
    have H' := Aside0.mk H
    clear H
    go_wp2
    go_loopg [7, 8] kj3 (fun kq v7 v8 w' => ∃ (x7_2 : Int) (x8_2 : Int), v7 = .int .i64 x7_2 ∧ v8 = .int .i64 x8_2 ∧ Aside0 (spec_BoxesOk.l0 kq l1 l2 x7_2 x8_2 a0_0 a0_1 = some r) ∧ Aside0 (kq ≤ kj3) ∧ Aside0 (w'.heap[gb664]? = some (.cells #[.int .i64 a0_0, .int .i64 a0_1] 49 (0, 0))) ∧ Aside0 (Below w.heap.size w w'))
    case atStart => exact ⟨(0), (0), zf42_3, zf42_3, H', ⟨Nat.le_refl _⟩, ⟨by (with_reducible repeat (first | refine blk_drewN ?_ _ | refine blk_drew ?_ | refine blk_alloc ?_ _)); exact BK664.out⟩, ⟨by repeat (first | (with_reducible first | exact HB.out | apply below_alloc | apply pw_below_drewN | apply below_drew1 | refine below_set ?_ GE664.out) | exact HB.out)⟩⟩
    case round =>
     clear H'
     try clear c1
     try clear c2
     try clear p2
     try clear c4
     try clear c7
     try clear c13
     try clear hcz11_0
     try clear hcz11_1
     try clear hcz9_0
     try clear hcz9_1
     try clear hfz11_0
     try clear hfz11_1
     try clear hfz9_0
     try clear hfz9_1
     try clear p2
     obtain ⟨x7_2, x8_2, rfl, rfl, HA, HK2, BK664, HB⟩ := hrel
     cases gk with
     | zero => exact absurd HA.out (by simp [spec_BoxesOk.l0])
     | succ k2 =>
      have H := HA.out
      clear HA
      simp only [spec_BoxesOk.l0] at H
      by_cases c14 : x8_2 < (l2.length : Int)
      ·
       rw [if_pos c14] at H
       have c14b0 : decide (x8_2 < (l2.length : Int)) = true := decide_eq_true c14
       clear c14
       have HC15 := Aside0.mk H
       clear H
       go_upto_region 7 with (fail)
       go_cut [56] (fun v56 wc => ∃ (kq : Nat) (x56_14 : Bool), v56 = .bool x56_14 ∧ Aside0 (spec_BoxesOk.j2 kq l1 l2 x7_2 x8_2 x56_14 a0_0 a0_1 = some r) ∧ Aside0 (kq ≤ k2) ∧ Aside0 (wc.heap[gb664]? = some (.cells #[.int .i64 a0_0, .int .i64 a0_1] 49 (0, 0))) ∧ Aside0 (Below w.heap.size w wc))
       case first =>
        have H := HC15.out
        clear HC15
        by_cases c16 : 0 ≤ x8_2
        ·
         rw [if_pos c16] at H
         have c16b0 : decide (0 ≤ x8_2) = true := decide_eq_true c16
         clear c16
         (first | rw [c16b0] | (simp only [i64_w, i32_w]; rw [c16b0]) | skip)
         by_cases c17 : (((rd_T62 l2 x8_2).f2).length : Int) = 0
         ·
          rw [if_pos c17] at H
          have c17b0 : ((((rd_T62 l2 x8_2).f2).length : Int) == 0) = true := beq_iff_eq.mpr c17
          have c17b1 : ((((rd_T62 l2 x8_2).f2).length : Int) != 0) = false := bne_eq_false_iff_eq.mpr c17
          clear c17
          have H' := Aside0.mk H
          clear H
          have p667 : 0 ≤ (x8_2 : Int) := of_decide_eq_true zf42_1
          have q667 : x8_2 < (l2.length : Int) := of_decide_eq_true zf42_1
          obtain ⟨ad667, A667_2, c667_2, e667, hx667_0, hx667_1, hx667_2, hl667_2, hi667_2⟩ := at_T62 HR2.out x8_2 p667 q667
          cases e667
          replace hx667_0 := (HB.out.cell (World.block_lt_of_cell? w _ hx667_0)).trans hx667_0
          replace hx667_1 := (HB.out.cell (World.block_lt_of_cell? w _ hx667_1)).trans hx667_1
          replace hx667_2 := (HB.out.cell (World.block_lt_of_cell? w _ hx667_2)).trans hx667_2
          have HR667_2 := Aside0.mk hi667_2
          have HC667_2 := Aside0.mk hl667_2
          clear hi667_2 hl667_2
          replace p667 := eq_true p667
          replace q667 := eq_true q667
          go_wp2
          repeat (go_quiet (fail); try go_wp2)
          go_meet
          case rel => exact ⟨_, (true), zf42_3, H', ⟨by have := HJ3.out; have := HK2.out; first | omega | exact Nat.le_refl _⟩, ⟨by (with_reducible repeat (first | refine blk_drewN ?_ _ | refine blk_drew ?_ | refine blk_alloc ?_ _)); exact BK664.out⟩, ⟨by repeat (first | (with_reducible first | exact HB.out | apply below_alloc | apply pw_below_drewN | apply below_drew1 | refine below_set ?_ GE664.out) | exact HB.out)⟩⟩
         ·
          rw [if_neg c17] at H
          have c17b0 : ((((rd_T62 l2 x8_2).f2).length : Int) == 0) = false := beq_eq_false_iff_ne.mpr c17
          have c17b1 : ((((rd_T62 l2 x8_2).f2).length : Int) != 0) = true := bne_iff_ne.mpr c17
          have c17b2 : ¬ (((rd_T62 l2 x8_2).f2) = []) := fun h_ => c17 (by rw [h_]; rfl)
          by_cases c18 : (((rd_T62 l2 x8_2).f2).length : Int) > a0_1
          ·
           rw [if_pos c18] at H
           have c18b0 : decide (a0_1 < (((rd_T62 l2 x8_2).f2).length : Int)) = true := decide_eq_true c18
           clear c18
           have H' := Aside0.mk H
           clear H
           have p667 : 0 ≤ (x8_2 : Int) := of_decide_eq_true zf42_1
           have q667 : x8_2 < (l2.length : Int) := of_decide_eq_true zf42_1
           obtain ⟨ad667, A667_2, c667_2, e667, hx667_0, hx667_1, hx667_2, hl667_2, hi667_2⟩ := at_T62 HR2.out x8_2 p667 q667
           cases e667
           replace hx667_0 := (HB.out.cell (World.block_lt_of_cell? w _ hx667_0)).trans hx667_0
           replace hx667_1 := (HB.out.cell (World.block_lt_of_cell? w _ hx667_1)).trans hx667_1
           replace hx667_2 := (HB.out.cell (World.block_lt_of_cell? w _ hx667_2)).trans hx667_2
           have HR667_2 := Aside0.mk hi667_2
           have HC667_2 := Aside0.mk hl667_2
           clear hi667_2 hl667_2
           replace p667 := eq_true p667
           replace q667 := eq_true q667
           have p668 : 0 ≤ (x8_2 : Int) := of_decide_eq_true zf42_1
           have q668 : x8_2 < (l2.length : Int) := of_decide_eq_true zf42_1
           obtain ⟨ad668, A668_2, c668_2, e668, hx668_0, hx668_1, hx668_2, hl668_2, hi668_2⟩ := at_T62 HR2.out x8_2 p668 q668
           obtain rfl : ad667 = ad668 := (by injection e668)
           replace hx668_0 := (HB.out.cell (World.block_lt_of_cell? w _ hx668_0)).trans hx668_0
           replace hx668_1 := (HB.out.cell (World.block_lt_of_cell? w _ hx668_1)).trans hx668_1
           replace hx668_2 := (HB.out.cell (World.block_lt_of_cell? w _ hx668_2)).trans hx668_2
           have HR668_2 := Aside0.mk hi668_2
           have HC668_2 := Aside0.mk hl668_2
           clear hi668_2 hl668_2
           replace p668 := eq_true p668
           replace q668 := eq_true q668
           have ea_ := Option.some.inj (hx667_2.symm.trans hx668_2)
           injection ea_ with ea_ en_ ec_
           subst ea_
           subst ec_
           clear en_
           have hcz19_0 : wr.cell? ⟨gb664, 0, none⟩ = some (.int .i64 a0_0) := (blk_cell BK664.out 0).trans rfl
           have hcz19_1 : wr.cell? ⟨gb664, 1, none⟩ = some (.int .i64 a0_1) := (blk_cell BK664.out 1).trans rfl
           have hfz19_0 := blk_frozen BK664.out 0
           have hfz19_1 := blk_frozen BK664.out 1
           go_wp2
           repeat (go_quiet (fail); try go_wp2)
           go_meet
           case rel => exact ⟨_, (true), zf42_3, H', ⟨by have := HJ3.out; have := HK2.out; first | omega | exact Nat.le_refl _⟩, ⟨by (with_reducible repeat (first | refine blk_drewN ?_ _ | refine blk_drew ?_ | refine blk_alloc ?_ _)); exact BK664.out⟩, ⟨by repeat (first | (with_reducible first | exact HB.out | apply below_alloc | apply pw_below_drewN | apply below_drew1 | refine below_set ?_ GE664.out) | exact HB.out)⟩⟩
          ·
           rw [if_neg c18] at H
           have c18b0 : decide (a0_1 < (((rd_T62 l2 x8_2).f2).length : Int)) = false := decide_eq_false c18
           clear c18
           have H' := Aside0.mk H
           clear H
           have p667 : 0 ≤ (x8_2 : Int) := of_decide_eq_true zf42_1
           have q667 : x8_2 < (l2.length : Int) := of_decide_eq_true zf42_1
           obtain ⟨ad667, A667_2, c667_2, e667, hx667_0, hx667_1, hx667_2, hl667_2, hi667_2⟩ := at_T62 HR2.out x8_2 p667 q667
           cases e667
           replace hx667_0 := (HB.out.cell (World.block_lt_of_cell? w _ hx667_0)).trans hx667_0
           replace hx667_1 := (HB.out.cell (World.block_lt_of_cell? w _ hx667_1)).trans hx667_1
           replace hx667_2 := (HB.out.cell (World.block_lt_of_cell? w _ hx667_2)).trans hx667_2
           have HR667_2 := Aside0.mk hi667_2
           have HC667_2 := Aside0.mk hl667_2
           clear hi667_2 hl667_2
           replace p667 := eq_true p667
           replace q667 := eq_true q667
           have p668 : 0 ≤ (x8_2 : Int) := of_decide_eq_true zf42_1
           have q668 : x8_2 < (l2.length : Int) := of_decide_eq_true zf42_1
           obtain ⟨ad668, A668_2, c668_2, e668, hx668_0, hx668_1, hx668_2, hl668_2, hi668_2⟩ := at_T62 HR2.out x8_2 p668 q668
           obtain rfl : ad667 = ad668 := (by injection e668)
           replace hx668_0 := (HB.out.cell (World.block_lt_of_cell? w _ hx668_0)).trans hx668_0
           replace hx668_1 := (HB.out.cell (World.block_lt_of_cell? w _ hx668_1)).trans hx668_1
           replace hx668_2 := (HB.out.cell (World.block_lt_of_cell? w _ hx668_2)).trans hx668_2
           have HR668_2 := Aside0.mk hi668_2
           have HC668_2 := Aside0.mk hl668_2
           clear hi668_2 hl668_2
           replace p668 := eq_true p668
           replace q668 := eq_true q668
           have ea_ := Option.some.inj (hx667_2.symm.trans hx668_2)
           injection ea_ with ea_ en_ ec_
           subst ea_
           subst ec_
           clear en_
           have hcz20_0 : wr.cell? ⟨gb664, 0, none⟩ = some (.int .i64 a0_0) := (blk_cell BK664.out 0).trans rfl
           have hcz20_1 : wr.cell? ⟨gb664, 1, none⟩ = some (.int .i64 a0_1) := (blk_cell BK664.out 1).trans rfl
           have hfz20_0 := blk_frozen BK664.out 0
           have hfz20_1 := blk_frozen BK664.out 1
           have p669 : 0 ≤ (x8_2 : Int) := of_decide_eq_true zf42_1
           have q669 : x8_2 < (l2.length : Int) := of_decide_eq_true zf42_1
           obtain ⟨ad669, A669_2, c669_2, e669, hx669_0, hx669_1, hx669_2, hl669_2, hi669_2⟩ := at_T62 HR2.out x8_2 p669 q669
           obtain rfl : ad667 = ad669 := (by injection e669)
           replace hx669_0 := (HB.out.cell (World.block_lt_of_cell? w _ hx669_0)).trans hx669_0
           replace hx669_1 := (HB.out.cell (World.block_lt_of_cell? w _ hx669_1)).trans hx669_1
           replace hx669_2 := (HB.out.cell (World.block_lt_of_cell? w _ hx669_2)).trans hx669_2
           have HR669_2 := Aside0.mk hi669_2
           have HC669_2 := Aside0.mk hl669_2
           clear hi669_2 hl669_2
           replace p669 := eq_true p669
           replace q669 := eq_true q669
           have ea_ := Option.some.inj (hx667_2.symm.trans hx669_2)
           injection ea_ with ea_ en_ ec_
           subst ea_
           subst ec_
           clear en_
           go_wp2
           repeat (go_quiet (fail); try go_wp2)
           go_meet
           case rel => exact ⟨_, (decide (((rd_T62 l2 x8_2).f1) > a0_0)), zf42_3, H', ⟨by have := HJ3.out; have := HK2.out; first | omega | exact Nat.le_refl _⟩, ⟨by (with_reducible repeat (first | refine blk_drewN ?_ _ | refine blk_drew ?_ | refine blk_alloc ?_ _)); exact BK664.out⟩, ⟨by repeat (first | (with_reducible first | exact HB.out | apply below_alloc | apply pw_below_drewN | apply below_drew1 | refine below_set ?_ GE664.out) | exact HB.out)⟩⟩
        ·
         rw [if_neg c16] at H
         exact absurd H (by simp)
       case rest =>
        clear HC15
        try clear c1
        try clear c2
        try clear p2
        try clear c4
        try clear c6
        try clear p6
        try clear q6
        try clear hx6
        try clear c7
        try clear c13
        try clear c14
        try clear c14b0
        try clear c16
        try clear c16b0
        try clear c17
        try clear c17b0
        try clear c17b1
        try clear c17b2
        try clear c18
        try clear c18b0
        try clear hcz11_0
        try clear hcz11_1
        try clear hcz19_0
        try clear hcz19_1
        try clear hcz20_0
        try clear hcz20_1
        try clear hcz9_0
        try clear hcz9_1
        try clear hfz11_0
        try clear hfz11_1
        try clear hfz19_0
        try clear hfz19_1
        try clear hfz20_0
        try clear hfz20_1
        try clear hfz9_0
        try clear hfz9_1
        try clear hx667_0
        try clear hx667_1
        try clear hx667_2
        try clear hx668_0
        try clear hx668_1
        try clear hx668_2
        try clear hx669_0
        try clear hx669_1
        try clear hx669_2
        try clear p2
        try clear p667
        try clear p668
        try clear p669
        try clear q667
        try clear q668
        try clear q669
        obtain ⟨kq, x56_14, rfl, HA, HJ14, BK664, HB⟩ := hcut
        cases kq with
        | zero => exact absurd HA.out (by simp [spec_BoxesOk.j2])
        | succ kj14 =>
         have H := HA.out
         clear HA
         simp only [spec_BoxesOk.j2] at H
         by_cases c21 : x56_14 = true
         ·
          subst c21
          have H1 : (some false) = some r := by rw [if_pos rfl] at H; exact H
          clear H
          have H := H1
          clear H1
          obtain rfl := Option.some.inj H
          go_wp2
          go_ret
          exact ⟨by first | rfl | (simp [errW_none, errW_some] <;> rfl) | (simp [*, errW_none, errW_some] <;> rfl), by repeat (first | (with_reducible first | exact HB.out | apply below_alloc | apply pw_below_drewN | apply below_drew1 | refine below_set ?_ GE664.out) | exact HB.out)⟩
         ·
          replace c21 := Bool.eq_false_iff.mpr c21
          subst c21
          have H1 : (spec_BoxesOk.l1 kj14 l1 l2 x7_2 x8_2 0 0 a0_0 a0_1) = some r := by rw [if_neg (show ¬ (false = true) by decide)] at H; exact H
          clear H
          have H := H1
          clear H1
          have H' := Aside0.mk H
          clear H
          go_wp2
          go_loopg [7, 9, 10] kj14 (fun kq v7 v9 v10 w' => ∃ (x7_4 : Int) (x9_4 : Int) (x10_4 : Int), v7 = .int .i64 x7_4 ∧ v9 = .int .i64 x9_4 ∧ v10 = .int .i64 x10_4 ∧ Aside0 (spec_BoxesOk.l1 kq l1 l2 x7_4 x8_2 x9_4 x10_4 a0_0 a0_1 = some r) ∧ Aside0 (kq ≤ kj14) ∧ Aside0 (w'.heap[gb664]? = some (.cells #[.int .i64 a0_0, .int .i64 a0_1] 49 (0, 0))) ∧ Aside0 (Below w.heap.size w w'))
          case atStart => exact ⟨(x7_2), (0), (0), zf42_3, zf42_3, zf42_3, H', ⟨Nat.le_refl _⟩, ⟨by (with_reducible repeat (first | refine blk_drewN ?_ _ | refine blk_drew ?_ | refine blk_alloc ?_ _)); exact BK664.out⟩, ⟨by repeat (first | (with_reducible first | exact HB.out | apply below_alloc | apply pw_below_drewN | apply below_drew1 | refine below_set ?_ GE664.out) | exact HB.out)⟩⟩
          case round =>
           clear H'
           try clear c1
           try clear c2
           try clear p2
           try clear c4
           try clear c6
           try clear p6
           try clear q6
           try clear hx6
           try clear c7
           try clear c13
           try clear c14
           try clear c14b0
           try clear c16
           try clear c16b0
           try clear c17
           try clear c17b0
           try clear c17b1
           try clear c17b2
           try clear c18
           try clear c18b0
           try clear c21
           try clear hcz11_0
           try clear hcz11_1
           try clear hcz19_0
           try clear hcz19_1
           try clear hcz20_0
           try clear hcz20_1
           try clear hcz9_0
           try clear hcz9_1
           try clear hfz11_0
           try clear hfz11_1
           try clear hfz19_0
           try clear hfz19_1
           try clear hfz20_0
           try clear hfz20_1
           try clear hfz9_0
           try clear hfz9_1
           try clear hx667_0
           try clear hx667_1
           try clear hx667_2
           try clear hx668_0
           try clear hx668_1
           try clear hx668_2
           try clear hx669_0
           try clear hx669_1
           try clear hx669_2
           try clear p2
           try clear p6
           try clear p667
           try clear p668
           try clear p669
           try clear q6
           try clear q667
           try clear q668
           try clear q669
           obtain ⟨x7_4, x9_4, x10_4, rfl, rfl, rfl, HA, HK4, BK664, HB⟩ := hrel
           cases gk with
           | zero => exact absurd HA.out (by simp [spec_BoxesOk.l1])
           | succ k4 =>
            have H := HA.out
            clear HA
            simp only [spec_BoxesOk.l1] at H
            by_cases c22 : 0 ≤ x8_2
            ·
             rw [if_pos c22] at H
             have c22b0 : decide (0 ≤ x8_2) = true := decide_eq_true c22
             clear c22
             by_cases c23 : x8_2 < (l2.length : Int)
             ·
              rw [if_pos c23] at H
              have c23b0 : decide (x8_2 < (l2.length : Int)) = true := decide_eq_true c23
              clear c23
              by_cases c24 : x10_4 < (((rd_T62 l2 x8_2).f2).length : Int)
              ·
               rw [if_pos c24] at H
               have c24b0 : decide (x10_4 < (((rd_T62 l2 x8_2).f2).length : Int)) = true := decide_eq_true c24
               clear c24
               by_cases c25 : 0 ≤ x10_4
               ·
                rw [if_pos c25] at H
                have c25b0 : decide (0 ≤ x10_4) = true := decide_eq_true c25
                clear c25
                replace H := Option.bind_eq_some_iff.mp H
                obtain ⟨⟨t673, t674, t675⟩, A260, H⟩ := H
                replace H : (if t673 = 0 then (some false) else (if t675 = ((rd_T62 l2 x8_2).f0) then (spec_BoxesOk.l1 k4 l1 l2 (wrap64 (x7_4 + 1)) x8_2 (wrap64 (x9_4 + t674)) (wrap64 (x10_4 + 1)) a0_0 a0_1) else (some false))) = some r := H
                have A26 := Aside0.mk A260
                clear A260
                by_cases c27 : t673 = 0
                ·
                 rw [if_pos c27] at H
                 have c27b0 : (t673 == 0) = true := beq_iff_eq.mpr c27
                 have c27b1 : (t673 != 0) = false := bne_eq_false_iff_eq.mpr c27
                 clear c27
                 obtain rfl := Option.some.inj H
                 have p670 : 0 ≤ (x8_2 : Int) := of_decide_eq_true zf42_1
                 have q670 : x8_2 < (l2.length : Int) := of_decide_eq_true zf42_1
                 obtain ⟨ad670, A670_2, c670_2, e670, hx670_0, hx670_1, hx670_2, hl670_2, hi670_2⟩ := at_T62 HR2.out x8_2 p670 q670
                 cases e670
                 replace hx670_0 := (HB.out.cell (World.block_lt_of_cell? w _ hx670_0)).trans hx670_0
                 replace hx670_1 := (HB.out.cell (World.block_lt_of_cell? w _ hx670_1)).trans hx670_1
                 replace hx670_2 := (HB.out.cell (World.block_lt_of_cell? w _ hx670_2)).trans hx670_2
                 have HR670_2 := Aside0.mk hi670_2
                 have HC670_2 := Aside0.mk hl670_2
                 clear hi670_2 hl670_2
                 replace p670 := eq_true p670
                 replace q670 := eq_true q670
                 have p671 : 0 ≤ (x8_2 : Int) := of_decide_eq_true zf42_1
                 have q671 : x8_2 < (l2.length : Int) := of_decide_eq_true zf42_1
                 obtain ⟨ad671, A671_2, c671_2, e671, hx671_0, hx671_1, hx671_2, hl671_2, hi671_2⟩ := at_T62 HR2.out x8_2 p671 q671
                 obtain rfl : ad670 = ad671 := (by injection e671)
                 replace hx671_0 := (HB.out.cell (World.block_lt_of_cell? w _ hx671_0)).trans hx671_0
                 replace hx671_1 := (HB.out.cell (World.block_lt_of_cell? w _ hx671_1)).trans hx671_1
                 replace hx671_2 := (HB.out.cell (World.block_lt_of_cell? w _ hx671_2)).trans hx671_2
                 have HR671_2 := Aside0.mk hi671_2
                 have HC671_2 := Aside0.mk hl671_2
                 clear hi671_2 hl671_2
                 replace p671 := eq_true p671
                 replace q671 := eq_true q671
                 have ea_ := Option.some.inj (hx670_2.symm.trans hx671_2)
                 injection ea_ with ea_ en_ ec_
                 subst ea_
                 subst ec_
                 clear en_
                 have p672 : 0 ≤ (x10_4 : Int) := of_decide_eq_true zf42_1
                 have q672 : x10_4 < (((rd_T62 l2 x8_2).f2).length : Int) := of_decide_eq_true zf42_1
                 obtain ⟨ad672, e672, hx672_0⟩ := Kd.at_int HR671_2.out x10_4 p672 q672
                 cases e672
                 replace hx672_0 := (HB.out.cell (World.block_lt_of_cell? w _ hx672_0)).trans hx672_0
                 replace p672 := eq_true p672
                 replace q672 := eq_true q672
                 go_wp2_with (first | (go_at_call 74; (with_reducible refine (spec_l07Piece.calls k4 _ _ l1 (rd ((rd_T62 l2 x8_2).f2) x10_4) t673 t674 t675 _ ?side1 ?side2 A26.out).mono ?_); (case side1 => repeat (first | exact (Kd.C_below HR1.out HB.out) | (with_reducible refine Kd.C_alloc ?_ _) | (with_reducible refine Kd.C_drewN ?_ _) | (with_reducible refine Kd.C_drew ?_))); (case side2 => exact HC1.out); rintro e w28 ⟨rfl, hb⟩; have n0_ := Aside0.mk (blk_below (g := gb664) (o := .cells #[.int .i64 a0_0, .int .i64 a0_1] 49 (0, 0)) zf42_2 hb); have n1_ := Aside0.mk (below_step zf42_0 hb); clear BK664; clear HB; have BK664 := n0_; have HB := n1_; clear n0_ n1_; (try clear hb); (try clear hb2); (try clear hk); (try clear hi)) | ((with_reducible refine gate_dst (N := 11) rfl ?_); (try (refine gate_guard (by rfl) ?_; dsimp only)); refine box_event ?hg (N := 11) ?hd (cs := #[.int .i64 0, .int .i64 0, .int .i64 0]) (t := 80) ?hr ?_; (case hd => rfl); (case hg => rfl); (case hr => first | (go_simp; done) | (go_simp; rfl)); intro gb676 hg w29 hbox hb; have n0_ := Aside0.mk (blk_below (g := gb664) (o := .cells #[.int .i64 a0_0, .int .i64 a0_1] 49 (0, 0)) zf42_2 hb); have n1_ := Aside0.mk (below_step zf42_0 hb); have n2_ := Aside0.mk (hbox); have n3_ := Aside0.mk ((by rw [hg]; exact (below_size zf42_0) : w.heap.size ≤ gb676)); have n4_ := Aside0.mk ((by rw [hg]; exact (below_size zf42_0) : w.heap.size ≤ gb676)); have n5_ := Aside0.mk ((zf42_9 : gb664 ≠ gb676)); have n6_ := Aside0.mk ((zf42_10 : gb676 ≠ gb664)); clear BK664; clear HB; have BK664 := n0_; have HB := n1_; have BK676 := n2_; have GW676 := n3_; have GE676 := n4_; have NB664_676 := n5_; have NB676_664 := n6_; clear n0_ n1_ n2_ n3_ n4_ n5_ n6_; clear hb hbox hg; have hnb30 := NB676_664.out; have hnc30 := NB664_676.out; have hcz31_0 : w29.cell? ⟨gb676, 0, none⟩ = some (.int .i64 0) := (blk_cell BK676.out 0).trans rfl; have hcz31_1 : w29.cell? ⟨gb676, 1, none⟩ = some (.int .i64 0) := (blk_cell BK676.out 1).trans rfl; have hcz31_2 : w29.cell? ⟨gb676, 2, none⟩ = some (.int .i64 0) := (blk_cell BK676.out 2).trans rfl; have hfz31_0 := blk_frozen BK676.out 0; have hfz31_1 := blk_frozen BK676.out 1; have hfz31_2 := blk_frozen BK676.out 2))
                 repeat (go_quiet (fail); try go_wp2_with fail)
                 go_ret
                 exact ⟨by first | rfl | (simp [errW_none, errW_some] <;> rfl) | (simp [*, errW_none, errW_some] <;> rfl), by repeat (first | (with_reducible first | exact HB.out | apply below_alloc | apply pw_below_drewN | apply below_drew1 | refine below_set ?_ GE664.out | refine below_set ?_ GE676.out) | exact HB.out)⟩
                ·
                 rw [if_neg c27] at H
                 have c27b0 : (t673 == 0) = false := beq_eq_false_iff_ne.mpr c27
                 have c27b1 : (t673 != 0) = true := bne_iff_ne.mpr c27
                 by_cases c32 : t675 = ((rd_T62 l2 x8_2).f0)
                 ·
                  rw [if_pos c32] at H
                  have c32b0 : (t675 == ((rd_T62 l2 x8_2).f0)) = true := beq_iff_eq.mpr c32
                  have c32b1 : (t675 != ((rd_T62 l2 x8_2).f0)) = false := bne_eq_false_iff_eq.mpr c32
                  clear c32
                  have H' := Aside0.mk H
                  clear H
                  have p670 : 0 ≤ (x8_2 : Int) := of_decide_eq_true zf42_1
                  have q670 : x8_2 < (l2.length : Int) := of_decide_eq_true zf42_1
                  obtain ⟨ad670, A670_2, c670_2, e670, hx670_0, hx670_1, hx670_2, hl670_2, hi670_2⟩ := at_T62 HR2.out x8_2 p670 q670
                  cases e670
                  replace hx670_0 := (HB.out.cell (World.block_lt_of_cell? w _ hx670_0)).trans hx670_0
                  replace hx670_1 := (HB.out.cell (World.block_lt_of_cell? w _ hx670_1)).trans hx670_1
                  replace hx670_2 := (HB.out.cell (World.block_lt_of_cell? w _ hx670_2)).trans hx670_2
                  have HR670_2 := Aside0.mk hi670_2
                  have HC670_2 := Aside0.mk hl670_2
                  clear hi670_2 hl670_2
                  replace p670 := eq_true p670
                  replace q670 := eq_true q670
                  have p671 : 0 ≤ (x8_2 : Int) := of_decide_eq_true zf42_1
                  have q671 : x8_2 < (l2.length : Int) := of_decide_eq_true zf42_1
                  obtain ⟨ad671, A671_2, c671_2, e671, hx671_0, hx671_1, hx671_2, hl671_2, hi671_2⟩ := at_T62 HR2.out x8_2 p671 q671
                  obtain rfl : ad670 = ad671 := (by injection e671)
                  replace hx671_0 := (HB.out.cell (World.block_lt_of_cell? w _ hx671_0)).trans hx671_0
                  replace hx671_1 := (HB.out.cell (World.block_lt_of_cell? w _ hx671_1)).trans hx671_1
                  replace hx671_2 := (HB.out.cell (World.block_lt_of_cell? w _ hx671_2)).trans hx671_2
                  have HR671_2 := Aside0.mk hi671_2
                  have HC671_2 := Aside0.mk hl671_2
                  clear hi671_2 hl671_2
                  replace p671 := eq_true p671
                  replace q671 := eq_true q671
                  have ea_ := Option.some.inj (hx670_2.symm.trans hx671_2)
                  injection ea_ with ea_ en_ ec_
                  subst ea_
                  subst ec_
                  clear en_
                  have p672 : 0 ≤ (x10_4 : Int) := of_decide_eq_true zf42_1
                  have q672 : x10_4 < (((rd_T62 l2 x8_2).f2).length : Int) := of_decide_eq_true zf42_1
                  obtain ⟨ad672, e672, hx672_0⟩ := Kd.at_int HR671_2.out x10_4 p672 q672
                  cases e672
                  replace hx672_0 := (HB.out.cell (World.block_lt_of_cell? w _ hx672_0)).trans hx672_0
                  replace p672 := eq_true p672
                  replace q672 := eq_true q672
                  go_wp2_with (first | (go_at_call 74; (with_reducible refine (spec_l07Piece.calls k4 _ _ l1 (rd ((rd_T62 l2 x8_2).f2) x10_4) t673 t674 t675 _ ?side1 ?side2 A26.out).mono ?_); (case side1 => repeat (first | exact (Kd.C_below HR1.out HB.out) | (with_reducible refine Kd.C_alloc ?_ _) | (with_reducible refine Kd.C_drewN ?_ _) | (with_reducible refine Kd.C_drew ?_))); (case side2 => exact HC1.out); rintro e w33 ⟨rfl, hb⟩; have n0_ := Aside0.mk (blk_below (g := gb664) (o := .cells #[.int .i64 a0_0, .int .i64 a0_1] 49 (0, 0)) zf42_2 hb); have n1_ := Aside0.mk (below_step zf42_0 hb); clear BK664; clear HB; have BK664 := n0_; have HB := n1_; clear n0_ n1_; (try clear hb); (try clear hb2); (try clear hk); (try clear hi)) | ((with_reducible refine gate_dst (N := 11) rfl ?_); (try (refine gate_guard (by rfl) ?_; dsimp only)); refine box_event ?hg (N := 11) ?hd (cs := #[.int .i64 0, .int .i64 0, .int .i64 0]) (t := 80) ?hr ?_; (case hd => rfl); (case hg => rfl); (case hr => first | (go_simp; done) | (go_simp; rfl)); intro gb676 hg w34 hbox hb; have n0_ := Aside0.mk (blk_below (g := gb664) (o := .cells #[.int .i64 a0_0, .int .i64 a0_1] 49 (0, 0)) zf42_2 hb); have n1_ := Aside0.mk (below_step zf42_0 hb); have n2_ := Aside0.mk (hbox); have n3_ := Aside0.mk ((by rw [hg]; exact (below_size zf42_0) : w.heap.size ≤ gb676)); have n4_ := Aside0.mk ((by rw [hg]; exact (below_size zf42_0) : w.heap.size ≤ gb676)); have n5_ := Aside0.mk ((zf42_9 : gb664 ≠ gb676)); have n6_ := Aside0.mk ((zf42_10 : gb676 ≠ gb664)); clear BK664; clear HB; have BK664 := n0_; have HB := n1_; have BK676 := n2_; have GW676 := n3_; have GE676 := n4_; have NB664_676 := n5_; have NB676_664 := n6_; clear n0_ n1_ n2_ n3_ n4_ n5_ n6_; clear hb hbox hg; have hnb35 := NB676_664.out; have hnc35 := NB664_676.out; have hcz36_0 : w34.cell? ⟨gb676, 0, none⟩ = some (.int .i64 0) := (blk_cell BK676.out 0).trans rfl; have hcz36_1 : w34.cell? ⟨gb676, 1, none⟩ = some (.int .i64 0) := (blk_cell BK676.out 1).trans rfl; have hcz36_2 : w34.cell? ⟨gb676, 2, none⟩ = some (.int .i64 0) := (blk_cell BK676.out 2).trans rfl; have hfz36_0 := blk_frozen BK676.out 0; have hfz36_1 := blk_frozen BK676.out 1; have hfz36_2 := blk_frozen BK676.out 2; have p677 : 0 ≤ (x8_2 : Int) := of_decide_eq_true zf42_1; have q677 : x8_2 < (l2.length : Int) := of_decide_eq_true zf42_1; obtain ⟨ad677, A677_2, c677_2, e677, hx677_0, hx677_1, hx677_2, hl677_2, hi677_2⟩ := at_T62 HR2.out x8_2 p677 q677; obtain rfl : ad670 = ad677 := (by injection e677); have hn677_0 : ad670.block ≠ gb676 := Nat.ne_of_lt (Nat.lt_of_lt_of_le zf42_7 GW676.out); have hn677_1 : ad670.block ≠ gb676 := Nat.ne_of_lt (Nat.lt_of_lt_of_le zf42_7 GW676.out); have hn677_2 : ad670.block ≠ gb676 := Nat.ne_of_lt (Nat.lt_of_lt_of_le zf42_7 GW676.out); replace hx677_0 := (HB.out.cell (World.block_lt_of_cell? w _ hx677_0)).trans hx677_0; replace hx677_1 := (HB.out.cell (World.block_lt_of_cell? w _ hx677_1)).trans hx677_1; replace hx677_2 := (HB.out.cell (World.block_lt_of_cell? w _ hx677_2)).trans hx677_2; have HR677_2 := Aside0.mk hi677_2; have HC677_2 := Aside0.mk hl677_2; clear hi677_2 hl677_2; replace hx677_0 := (cell_far (p := ⟨gb676, 0, none⟩) zf42_4 (.int .i64 t673)).trans hx677_0; replace hx677_1 := (cell_far (p := ⟨gb676, 0, none⟩) zf42_4 (.int .i64 t673)).trans hx677_1; replace hx677_2 := (cell_far (p := ⟨gb676, 0, none⟩) zf42_4 (.int .i64 t673)).trans hx677_2; replace hx677_0 := (cell_far (p := ⟨gb676, 1, none⟩) zf42_5 (.int .i64 t674)).trans hx677_0; replace hx677_1 := (cell_far (p := ⟨gb676, 1, none⟩) zf42_5 (.int .i64 t674)).trans hx677_1; replace hx677_2 := (cell_far (p := ⟨gb676, 1, none⟩) zf42_5 (.int .i64 t674)).trans hx677_2; replace hx677_0 := (cell_far (p := ⟨gb676, 2, none⟩) zf42_6 (.int .i64 t675)).trans hx677_0; replace hx677_1 := (cell_far (p := ⟨gb676, 2, none⟩) zf42_6 (.int .i64 t675)).trans hx677_1; replace hx677_2 := (cell_far (p := ⟨gb676, 2, none⟩) zf42_6 (.int .i64 t675)).trans hx677_2; (try have hy677_0 := fun (n_ : Nat) => (show (((((w34.drewN n_).setCell ⟨gb676, 0, none⟩ (.int .i64 t673)).setCell ⟨gb676, 1, none⟩ (.int .i64 t674)).setCell ⟨gb676, 2, none⟩ (.int .i64 t675))).cell? _ = some _ from hx677_0)); (try have hy677_1 := fun (n_ : Nat) => (show (((((w34.drewN n_).setCell ⟨gb676, 0, none⟩ (.int .i64 t673)).setCell ⟨gb676, 1, none⟩ (.int .i64 t674)).setCell ⟨gb676, 2, none⟩ (.int .i64 t675))).cell? _ = some _ from hx677_1)); (try have hy677_2 := fun (n_ : Nat) => (show (((((w34.drewN n_).setCell ⟨gb676, 0, none⟩ (.int .i64 t673)).setCell ⟨gb676, 1, none⟩ (.int .i64 t674)).setCell ⟨gb676, 2, none⟩ (.int .i64 t675))).cell? _ = some _ from hx677_2)); clear hn677_0; clear hn677_1; clear hn677_2; replace p677 := eq_true p677; replace q677 := eq_true q677))
                  repeat (go_quiet (fail); try go_wp2_with fail)
                  go_roundg k4
                  case measure => have := HJ3.out; have := HK2.out; have := HJ14.out; have := HK4.out; omega
                  case rel => exact ⟨(wrap64 (x7_4 + 1)), (wrap64 (x9_4 + t674)), (wrap64 (x10_4 + 1)), zf42_3, zf42_3, zf42_3, H', ⟨by have := HJ3.out; have := HK2.out; have := HJ14.out; have := HK4.out; omega⟩, ⟨by (with_reducible repeat (first | refine blk_drewN ?_ _ | refine blk_drew ?_ | refine blk_alloc ?_ _)); refine blk_far ?_ NB664_676.out _; (with_reducible repeat (first | refine blk_drewN ?_ _ | refine blk_drew ?_ | refine blk_alloc ?_ _)); refine blk_far ?_ NB664_676.out _; (with_reducible repeat (first | refine blk_drewN ?_ _ | refine blk_drew ?_ | refine blk_alloc ?_ _)); refine blk_far ?_ NB664_676.out _; (with_reducible repeat (first | refine blk_drewN ?_ _ | refine blk_drew ?_ | refine blk_alloc ?_ _)); exact BK664.out⟩, ⟨by repeat (first | (with_reducible first | exact HB.out | apply below_alloc | apply pw_below_drewN | apply below_drew1 | refine below_set ?_ GE664.out | refine below_set ?_ GE676.out) | exact HB.out)⟩⟩
                 ·
                  rw [if_neg c32] at H
                  have c32b0 : (t675 == ((rd_T62 l2 x8_2).f0)) = false := beq_eq_false_iff_ne.mpr c32
                  have c32b1 : (t675 != ((rd_T62 l2 x8_2).f0)) = true := bne_iff_ne.mpr c32
                  obtain rfl := Option.some.inj H
                  have p670 : 0 ≤ (x8_2 : Int) := of_decide_eq_true zf42_1
                  have q670 : x8_2 < (l2.length : Int) := of_decide_eq_true zf42_1
                  obtain ⟨ad670, A670_2, c670_2, e670, hx670_0, hx670_1, hx670_2, hl670_2, hi670_2⟩ := at_T62 HR2.out x8_2 p670 q670
                  cases e670
                  replace hx670_0 := (HB.out.cell (World.block_lt_of_cell? w _ hx670_0)).trans hx670_0
                  replace hx670_1 := (HB.out.cell (World.block_lt_of_cell? w _ hx670_1)).trans hx670_1
                  replace hx670_2 := (HB.out.cell (World.block_lt_of_cell? w _ hx670_2)).trans hx670_2
                  have HR670_2 := Aside0.mk hi670_2
                  have HC670_2 := Aside0.mk hl670_2
                  clear hi670_2 hl670_2
                  replace p670 := eq_true p670
                  replace q670 := eq_true q670
                  have p671 : 0 ≤ (x8_2 : Int) := of_decide_eq_true zf42_1
                  have q671 : x8_2 < (l2.length : Int) := of_decide_eq_true zf42_1
                  obtain ⟨ad671, A671_2, c671_2, e671, hx671_0, hx671_1, hx671_2, hl671_2, hi671_2⟩ := at_T62 HR2.out x8_2 p671 q671
                  obtain rfl : ad670 = ad671 := (by injection e671)
                  replace hx671_0 := (HB.out.cell (World.block_lt_of_cell? w _ hx671_0)).trans hx671_0
                  replace hx671_1 := (HB.out.cell (World.block_lt_of_cell? w _ hx671_1)).trans hx671_1
                  replace hx671_2 := (HB.out.cell (World.block_lt_of_cell? w _ hx671_2)).trans hx671_2
                  have HR671_2 := Aside0.mk hi671_2
                  have HC671_2 := Aside0.mk hl671_2
                  clear hi671_2 hl671_2
                  replace p671 := eq_true p671
                  replace q671 := eq_true q671
                  have ea_ := Option.some.inj (hx670_2.symm.trans hx671_2)
                  injection ea_ with ea_ en_ ec_
                  subst ea_
                  subst ec_
                  clear en_
                  have p672 : 0 ≤ (x10_4 : Int) := of_decide_eq_true zf42_1
                  have q672 : x10_4 < (((rd_T62 l2 x8_2).f2).length : Int) := of_decide_eq_true zf42_1
                  obtain ⟨ad672, e672, hx672_0⟩ := Kd.at_int HR671_2.out x10_4 p672 q672
                  cases e672
                  replace hx672_0 := (HB.out.cell (World.block_lt_of_cell? w _ hx672_0)).trans hx672_0
                  replace p672 := eq_true p672
                  replace q672 := eq_true q672
                  go_wp2_with (first | (go_at_call 74; (with_reducible refine (spec_l07Piece.calls k4 _ _ l1 (rd ((rd_T62 l2 x8_2).f2) x10_4) t673 t674 t675 _ ?side1 ?side2 A26.out).mono ?_); (case side1 => repeat (first | exact (Kd.C_below HR1.out HB.out) | (with_reducible refine Kd.C_alloc ?_ _) | (with_reducible refine Kd.C_drewN ?_ _) | (with_reducible refine Kd.C_drew ?_))); (case side2 => exact HC1.out); rintro e w37 ⟨rfl, hb⟩; have n0_ := Aside0.mk (blk_below (g := gb664) (o := .cells #[.int .i64 a0_0, .int .i64 a0_1] 49 (0, 0)) zf42_2 hb); have n1_ := Aside0.mk (below_step zf42_0 hb); clear BK664; clear HB; have BK664 := n0_; have HB := n1_; clear n0_ n1_; (try clear hb); (try clear hb2); (try clear hk); (try clear hi)) | ((with_reducible refine gate_dst (N := 11) rfl ?_); (try (refine gate_guard (by rfl) ?_; dsimp only)); refine box_event ?hg (N := 11) ?hd (cs := #[.int .i64 0, .int .i64 0, .int .i64 0]) (t := 80) ?hr ?_; (case hd => rfl); (case hg => rfl); (case hr => first | (go_simp; done) | (go_simp; rfl)); intro gb676 hg w38 hbox hb; have n0_ := Aside0.mk (blk_below (g := gb664) (o := .cells #[.int .i64 a0_0, .int .i64 a0_1] 49 (0, 0)) zf42_2 hb); have n1_ := Aside0.mk (below_step zf42_0 hb); have n2_ := Aside0.mk (hbox); have n3_ := Aside0.mk ((by rw [hg]; exact (below_size zf42_0) : w.heap.size ≤ gb676)); have n4_ := Aside0.mk ((by rw [hg]; exact (below_size zf42_0) : w.heap.size ≤ gb676)); have n5_ := Aside0.mk ((zf42_9 : gb664 ≠ gb676)); have n6_ := Aside0.mk ((zf42_10 : gb676 ≠ gb664)); clear BK664; clear HB; have BK664 := n0_; have HB := n1_; have BK676 := n2_; have GW676 := n3_; have GE676 := n4_; have NB664_676 := n5_; have NB676_664 := n6_; clear n0_ n1_ n2_ n3_ n4_ n5_ n6_; clear hb hbox hg; have hnb39 := NB676_664.out; have hnc39 := NB664_676.out; have hcz40_0 : w38.cell? ⟨gb676, 0, none⟩ = some (.int .i64 0) := (blk_cell BK676.out 0).trans rfl; have hcz40_1 : w38.cell? ⟨gb676, 1, none⟩ = some (.int .i64 0) := (blk_cell BK676.out 1).trans rfl; have hcz40_2 : w38.cell? ⟨gb676, 2, none⟩ = some (.int .i64 0) := (blk_cell BK676.out 2).trans rfl; have hfz40_0 := blk_frozen BK676.out 0; have hfz40_1 := blk_frozen BK676.out 1; have hfz40_2 := blk_frozen BK676.out 2; have p677 : 0 ≤ (x8_2 : Int) := of_decide_eq_true zf42_1; have q677 : x8_2 < (l2.length : Int) := of_decide_eq_true zf42_1; obtain ⟨ad677, A677_2, c677_2, e677, hx677_0, hx677_1, hx677_2, hl677_2, hi677_2⟩ := at_T62 HR2.out x8_2 p677 q677; obtain rfl : ad670 = ad677 := (by injection e677); have hn677_0 : ad670.block ≠ gb676 := Nat.ne_of_lt (Nat.lt_of_lt_of_le zf42_7 GW676.out); have hn677_1 : ad670.block ≠ gb676 := Nat.ne_of_lt (Nat.lt_of_lt_of_le zf42_7 GW676.out); have hn677_2 : ad670.block ≠ gb676 := Nat.ne_of_lt (Nat.lt_of_lt_of_le zf42_7 GW676.out); replace hx677_0 := (HB.out.cell (World.block_lt_of_cell? w _ hx677_0)).trans hx677_0; replace hx677_1 := (HB.out.cell (World.block_lt_of_cell? w _ hx677_1)).trans hx677_1; replace hx677_2 := (HB.out.cell (World.block_lt_of_cell? w _ hx677_2)).trans hx677_2; have HR677_2 := Aside0.mk hi677_2; have HC677_2 := Aside0.mk hl677_2; clear hi677_2 hl677_2; replace hx677_0 := (cell_far (p := ⟨gb676, 0, none⟩) zf42_4 (.int .i64 t673)).trans hx677_0; replace hx677_1 := (cell_far (p := ⟨gb676, 0, none⟩) zf42_4 (.int .i64 t673)).trans hx677_1; replace hx677_2 := (cell_far (p := ⟨gb676, 0, none⟩) zf42_4 (.int .i64 t673)).trans hx677_2; replace hx677_0 := (cell_far (p := ⟨gb676, 1, none⟩) zf42_5 (.int .i64 t674)).trans hx677_0; replace hx677_1 := (cell_far (p := ⟨gb676, 1, none⟩) zf42_5 (.int .i64 t674)).trans hx677_1; replace hx677_2 := (cell_far (p := ⟨gb676, 1, none⟩) zf42_5 (.int .i64 t674)).trans hx677_2; replace hx677_0 := (cell_far (p := ⟨gb676, 2, none⟩) zf42_6 (.int .i64 t675)).trans hx677_0; replace hx677_1 := (cell_far (p := ⟨gb676, 2, none⟩) zf42_6 (.int .i64 t675)).trans hx677_1; replace hx677_2 := (cell_far (p := ⟨gb676, 2, none⟩) zf42_6 (.int .i64 t675)).trans hx677_2; (try have hy677_0 := fun (n_ : Nat) => (show (((((w38.drewN n_).setCell ⟨gb676, 0, none⟩ (.int .i64 t673)).setCell ⟨gb676, 1, none⟩ (.int .i64 t674)).setCell ⟨gb676, 2, none⟩ (.int .i64 t675))).cell? _ = some _ from hx677_0)); (try have hy677_1 := fun (n_ : Nat) => (show (((((w38.drewN n_).setCell ⟨gb676, 0, none⟩ (.int .i64 t673)).setCell ⟨gb676, 1, none⟩ (.int .i64 t674)).setCell ⟨gb676, 2, none⟩ (.int .i64 t675))).cell? _ = some _ from hx677_1)); (try have hy677_2 := fun (n_ : Nat) => (show (((((w38.drewN n_).setCell ⟨gb676, 0, none⟩ (.int .i64 t673)).setCell ⟨gb676, 1, none⟩ (.int .i64 t674)).setCell ⟨gb676, 2, none⟩ (.int .i64 t675))).cell? _ = some _ from hx677_2)); clear hn677_0; clear hn677_1; clear hn677_2; replace p677 := eq_true p677; replace q677 := eq_true q677))
                  repeat (go_quiet (fail); try go_wp2_with fail)
                  go_ret
                  exact ⟨by first | rfl | (simp [errW_none, errW_some] <;> rfl) | (simp [*, errW_none, errW_some] <;> rfl), by repeat (first | (with_reducible first | exact HB.out | apply below_alloc | apply pw_below_drewN | apply below_drew1 | refine below_set ?_ GE664.out | refine below_set ?_ GE676.out) | exact HB.out)⟩
               ·
                rw [if_neg c25] at H
                exact absurd H (by simp)
              ·
               rw [if_neg c24] at H
               have c24b0 : decide (x10_4 < (((rd_T62 l2 x8_2).f2).length : Int)) = false := decide_eq_false c24
               clear c24
               by_cases c41 : x9_4 = ((rd_T62 l2 x8_2).f1)
               ·
                rw [if_pos c41] at H
                have c41b0 : (x9_4 == ((rd_T62 l2 x8_2).f1)) = true := beq_iff_eq.mpr c41
                have c41b1 : (x9_4 != ((rd_T62 l2 x8_2).f1)) = false := bne_eq_false_iff_eq.mpr c41
                clear c41
                have H' := Aside0.mk H
                clear H
                have p670 : 0 ≤ (x8_2 : Int) := of_decide_eq_true zf42_1
                have q670 : x8_2 < (l2.length : Int) := of_decide_eq_true zf42_1
                obtain ⟨ad670, A670_2, c670_2, e670, hx670_0, hx670_1, hx670_2, hl670_2, hi670_2⟩ := at_T62 HR2.out x8_2 p670 q670
                cases e670
                replace hx670_0 := (HB.out.cell (World.block_lt_of_cell? w _ hx670_0)).trans hx670_0
                replace hx670_1 := (HB.out.cell (World.block_lt_of_cell? w _ hx670_1)).trans hx670_1
                replace hx670_2 := (HB.out.cell (World.block_lt_of_cell? w _ hx670_2)).trans hx670_2
                have HR670_2 := Aside0.mk hi670_2
                have HC670_2 := Aside0.mk hl670_2
                clear hi670_2 hl670_2
                replace p670 := eq_true p670
                replace q670 := eq_true q670
                have p678 : 0 ≤ (x8_2 : Int) := of_decide_eq_true zf42_1
                have q678 : x8_2 < (l2.length : Int) := of_decide_eq_true zf42_1
                obtain ⟨ad678, A678_2, c678_2, e678, hx678_0, hx678_1, hx678_2, hl678_2, hi678_2⟩ := at_T62 HR2.out x8_2 p678 q678
                obtain rfl : ad670 = ad678 := (by injection e678)
                replace hx678_0 := (HB.out.cell (World.block_lt_of_cell? w _ hx678_0)).trans hx678_0
                replace hx678_1 := (HB.out.cell (World.block_lt_of_cell? w _ hx678_1)).trans hx678_1
                replace hx678_2 := (HB.out.cell (World.block_lt_of_cell? w _ hx678_2)).trans hx678_2
                have HR678_2 := Aside0.mk hi678_2
                have HC678_2 := Aside0.mk hl678_2
                clear hi678_2 hl678_2
                replace p678 := eq_true p678
                replace q678 := eq_true q678
                have ea_ := Option.some.inj (hx670_2.symm.trans hx678_2)
                injection ea_ with ea_ en_ ec_
                subst ea_
                subst ec_
                clear en_
                go_wp2
                go_roundg k4
                case measure => have := HJ3.out; have := HK2.out; have := HJ14.out; have := HK4.out; omega
                case rel => exact ⟨(x7_4), (wrap64 (x8_2 + 1)), zf42_3, zf42_3, H', ⟨by have := HJ3.out; have := HK2.out; have := HJ14.out; have := HK4.out; omega⟩, ⟨by (with_reducible repeat (first | refine blk_drewN ?_ _ | refine blk_drew ?_ | refine blk_alloc ?_ _)); exact BK664.out⟩, ⟨by repeat (first | (with_reducible first | exact HB.out | apply below_alloc | apply pw_below_drewN | apply below_drew1 | refine below_set ?_ GE664.out) | exact HB.out)⟩⟩
               ·
                rw [if_neg c41] at H
                have c41b0 : (x9_4 == ((rd_T62 l2 x8_2).f1)) = false := beq_eq_false_iff_ne.mpr c41
                have c41b1 : (x9_4 != ((rd_T62 l2 x8_2).f1)) = true := bne_iff_ne.mpr c41
                obtain rfl := Option.some.inj H
                have p670 : 0 ≤ (x8_2 : Int) := of_decide_eq_true zf42_1
                have q670 : x8_2 < (l2.length : Int) := of_decide_eq_true zf42_1
                obtain ⟨ad670, A670_2, c670_2, e670, hx670_0, hx670_1, hx670_2, hl670_2, hi670_2⟩ := at_T62 HR2.out x8_2 p670 q670
                cases e670
                replace hx670_0 := (HB.out.cell (World.block_lt_of_cell? w _ hx670_0)).trans hx670_0
                replace hx670_1 := (HB.out.cell (World.block_lt_of_cell? w _ hx670_1)).trans hx670_1
                replace hx670_2 := (HB.out.cell (World.block_lt_of_cell? w _ hx670_2)).trans hx670_2
                have HR670_2 := Aside0.mk hi670_2
                have HC670_2 := Aside0.mk hl670_2
                clear hi670_2 hl670_2
                replace p670 := eq_true p670
                replace q670 := eq_true q670
                have p678 : 0 ≤ (x8_2 : Int) := of_decide_eq_true zf42_1
                have q678 : x8_2 < (l2.length : Int) := of_decide_eq_true zf42_1
                obtain ⟨ad678, A678_2, c678_2, e678, hx678_0, hx678_1, hx678_2, hl678_2, hi678_2⟩ := at_T62 HR2.out x8_2 p678 q678
                obtain rfl : ad670 = ad678 := (by injection e678)
                replace hx678_0 := (HB.out.cell (World.block_lt_of_cell? w _ hx678_0)).trans hx678_0
                replace hx678_1 := (HB.out.cell (World.block_lt_of_cell? w _ hx678_1)).trans hx678_1
                replace hx678_2 := (HB.out.cell (World.block_lt_of_cell? w _ hx678_2)).trans hx678_2
                have HR678_2 := Aside0.mk hi678_2
                have HC678_2 := Aside0.mk hl678_2
                clear hi678_2 hl678_2
                replace p678 := eq_true p678
                replace q678 := eq_true q678
                have ea_ := Option.some.inj (hx670_2.symm.trans hx678_2)
                injection ea_ with ea_ en_ ec_
                subst ea_
                subst ec_
                clear en_
                go_wp2
                go_ret
                exact ⟨by first | rfl | (simp [errW_none, errW_some] <;> rfl) | (simp [*, errW_none, errW_some] <;> rfl), by repeat (first | (with_reducible first | exact HB.out | apply below_alloc | apply pw_below_drewN | apply below_drew1 | refine below_set ?_ GE664.out) | exact HB.out)⟩
             ·
              rw [if_neg c23] at H
              exact absurd H (by simp)
            ·
             rw [if_neg c22] at H
             exact absurd H (by simp)
      ·
       rw [if_neg c14] at H
       have c14b0 : decide (x8_2 < (l2.length : Int)) = false := decide_eq_false c14
       clear c14
       obtain ⟨y679, hy679⟩ : ∃ y_ : List Int, y_ = (([] : List Int)) := ⟨_, rfl⟩
       replace H : (spec_BoxesOk.l2 k2 l1 l2 x7_2 y679 0) = some r := by first | (rw [hy679]; with_reducible exact H) | (have H2_ := (Option.bind_some _ _).symm.trans H; rw [hy679]; with_reducible exact H2_) | (have H2_ := (Option.bind_some _ _).symm.trans H; with_reducible exact H2_) | with_reducible exact H | (rw [hy679]; exact H) | exact H
       have Ny679 := Aside0.mk hy679
       clear hy679
       have H' := Aside0.mk H
       clear H
       go_wp2_with ((with_reducible refine gate_dst (N := 103) rfl ?_); (try (refine gate_guard (by rfl) ?_; dsimp only)); refine Kd.R_lit (Kd.int .i64) _ 3 ?hg (N := 103) ?hd (xs := ([] : List Int)) (inner := []) (ok := fun _ => True) (okp := fun _ => True) ?hr ?hp (fun _ hk => hk) trivial (Below.refl _ _) (Nat.le_refl _) (by simp) ?_; (case hd => rfl); (case hg => rfl); (case hr => first | (go_simp; done) | (go_simp; rfl)); (case hp => exact (Reps.none _ _)); intro v680 w42 ho43 hb hg_ hnew_; clear hg_ hnew_; (first | rw [← Ny679.out] at ho43 | (simp only [Int.reduceToNat] at ho43; rw [← Ny679.out] at ho43)); have n0_ := Aside0.mk (Kd.R_lower ho43 (below_size zf42_0)); have n1_ := Aside0.mk (blk_below (g := gb664) (o := .cells #[.int .i64 a0_0, .int .i64 a0_1] 49 (0, 0)) zf42_2 hb); have n2_ := Aside0.mk (below_step zf42_0 hb); clear BK664; clear HB; have HO681 := n0_; have BK664 := n1_; have HB := n2_; clear n0_ n1_ n2_; clear hb ho43)
       (try simp only [Act.put, List.setIfInBounds_toArray, List.set_cons_zero, List.set_cons_succ])
       go_loopg [12, 13] k2 (fun kq v12 v13 w' => ∃ (x12_3 : List Int) (x13_3 : Int), v13 = .int .i64 x13_3 ∧ Aside0 (spec_BoxesOk.l2 kq l1 l2 x7_2 x12_3 x13_3 = some r) ∧ Aside0 (kq ≤ k2) ∧ Aside0 (Kd.R (Kd.int .i64) 3 w' w.heap.size (fun _ => True) v12 x12_3) ∧ Aside0 (w'.heap[gb664]? = some (.cells #[.int .i64 a0_0, .int .i64 a0_1] 49 (0, 0))) ∧ Aside0 (Below w.heap.size w w'))
       case atStart => exact ⟨(y679), (0), zf42_3, H', ⟨Nat.le_refl _⟩, ⟨by (with_reducible repeat (first | apply Kd.R_alloc | apply Kd.R_drewN | apply Kd.R_drew)); exact HO681.out⟩, ⟨by (with_reducible repeat (first | refine blk_drewN ?_ _ | refine blk_drew ?_ | refine blk_alloc ?_ _)); exact BK664.out⟩, ⟨by repeat (first | (with_reducible first | exact HB.out | apply below_alloc | apply pw_below_drewN | apply below_drew1 | refine below_set ?_ GE664.out) | exact HB.out)⟩⟩
       case round =>
        clear H'
        try clear c1
        try clear c2
        try clear p2
        try clear c3
        try clear c4
        try clear c6
        try clear p6
        try clear q6
        try clear hx6
        try clear c7
        try clear c13
        try clear c14
        try clear c14b0
        try clear c16
        try clear c16b0
        try clear c17
        try clear c17b0
        try clear c17b1
        try clear c17b2
        try clear c18
        try clear c18b0
        try clear c21
        try clear c22
        try clear c22b0
        try clear c23
        try clear c23b0
        try clear c24
        try clear c24b0
        try clear c25
        try clear c25b0
        try clear c27
        try clear c27b0
        try clear c27b1
        try clear c30
        try clear c32
        try clear c32b0
        try clear c32b1
        try clear c35
        try clear c39
        try clear c41
        try clear c41b0
        try clear c41b1
        try clear hcz11_0
        try clear hcz11_1
        try clear hcz19_0
        try clear hcz19_1
        try clear hcz20_0
        try clear hcz20_1
        try clear hcz31_0
        try clear hcz31_1
        try clear hcz31_2
        try clear hcz36_0
        try clear hcz36_1
        try clear hcz36_2
        try clear hcz40_0
        try clear hcz40_1
        try clear hcz40_2
        try clear hcz9_0
        try clear hcz9_1
        try clear hfz11_0
        try clear hfz11_1
        try clear hfz19_0
        try clear hfz19_1
        try clear hfz20_0
        try clear hfz20_1
        try clear hfz31_0
        try clear hfz31_1
        try clear hfz31_2
        try clear hfz36_0
        try clear hfz36_1
        try clear hfz36_2
        try clear hfz40_0
        try clear hfz40_1
        try clear hfz40_2
        try clear hfz9_0
        try clear hfz9_1
        try clear hx667_0
        try clear hx667_1
        try clear hx667_2
        try clear hx668_0
        try clear hx668_1
        try clear hx668_2
        try clear hx669_0
        try clear hx669_1
        try clear hx669_2
        try clear hx670_0
        try clear hx670_1
        try clear hx670_2
        try clear hx671_0
        try clear hx671_1
        try clear hx671_2
        try clear hx672_0
        try clear hx677_0
        try clear hx677_1
        try clear hx677_2
        try clear hx678_0
        try clear hx678_1
        try clear hx678_2
        try clear p2
        try clear p6
        try clear p667
        try clear p668
        try clear p669
        try clear p670
        try clear p671
        try clear p672
        try clear p677
        try clear p678
        try clear q6
        try clear q667
        try clear q668
        try clear q669
        try clear q670
        try clear q671
        try clear q672
        try clear q677
        try clear q678
        obtain ⟨x12_3, x13_3, rfl, HA, HK3, HO_12, BK664, HB⟩ := hrel
        cases gk with
        | zero => exact absurd HA.out (by simp [spec_BoxesOk.l2])
        | succ k3 =>
         have H := HA.out
         clear HA
         simp only [spec_BoxesOk.l2] at H
         by_cases c44 : x13_3 < (l2.length : Int)
         ·
          rw [if_pos c44] at H
          have c44b0 : decide (x13_3 < (l2.length : Int)) = true := decide_eq_true c44
          clear c44
          have H' := Aside0.mk H
          clear H
          go_wp2
          go_loopg [12, 14] k3 (fun kq v12 v14 w' => ∃ (x12_4 : List Int) (x14_4 : Int), v14 = .int .i64 x14_4 ∧ Aside0 (spec_BoxesOk.l3 kq l1 l2 x7_2 x12_4 x13_3 x14_4 = some r) ∧ Aside0 (kq ≤ k3) ∧ Aside0 (Kd.R (Kd.int .i64) 3 w' w.heap.size (fun _ => True) v12 x12_4) ∧ Aside0 (w'.heap[gb664]? = some (.cells #[.int .i64 a0_0, .int .i64 a0_1] 49 (0, 0))) ∧ Aside0 (Below w.heap.size w w'))
          case atStart => exact ⟨(x12_3), (0), zf42_3, H', ⟨Nat.le_refl _⟩, ⟨by (with_reducible repeat (first | apply Kd.R_alloc | apply Kd.R_drewN | apply Kd.R_drew)); exact HO_12.out⟩, ⟨by (with_reducible repeat (first | refine blk_drewN ?_ _ | refine blk_drew ?_ | refine blk_alloc ?_ _)); exact BK664.out⟩, ⟨by repeat (first | (with_reducible first | exact HB.out | apply below_alloc | apply pw_below_drewN | apply below_drew1 | refine below_set ?_ GE664.out) | exact HB.out)⟩⟩
          case round =>
           clear H'
           try clear c1
           try clear c2
           try clear p2
           try clear c3
           try clear c4
           try clear c6
           try clear p6
           try clear q6
           try clear hx6
           try clear c7
           try clear c13
           try clear c14
           try clear c14b0
           try clear c16
           try clear c16b0
           try clear c17
           try clear c17b0
           try clear c17b1
           try clear c17b2
           try clear c18
           try clear c18b0
           try clear c21
           try clear c22
           try clear c22b0
           try clear c23
           try clear c23b0
           try clear c24
           try clear c24b0
           try clear c25
           try clear c25b0
           try clear c27
           try clear c27b0
           try clear c27b1
           try clear c30
           try clear c32
           try clear c32b0
           try clear c32b1
           try clear c35
           try clear c39
           try clear c41
           try clear c41b0
           try clear c41b1
           try clear c44
           try clear c44b0
           try clear hcz11_0
           try clear hcz11_1
           try clear hcz19_0
           try clear hcz19_1
           try clear hcz20_0
           try clear hcz20_1
           try clear hcz31_0
           try clear hcz31_1
           try clear hcz31_2
           try clear hcz36_0
           try clear hcz36_1
           try clear hcz36_2
           try clear hcz40_0
           try clear hcz40_1
           try clear hcz40_2
           try clear hcz9_0
           try clear hcz9_1
           try clear hfz11_0
           try clear hfz11_1
           try clear hfz19_0
           try clear hfz19_1
           try clear hfz20_0
           try clear hfz20_1
           try clear hfz31_0
           try clear hfz31_1
           try clear hfz31_2
           try clear hfz36_0
           try clear hfz36_1
           try clear hfz36_2
           try clear hfz40_0
           try clear hfz40_1
           try clear hfz40_2
           try clear hfz9_0
           try clear hfz9_1
           try clear hx667_0
           try clear hx667_1
           try clear hx667_2
           try clear hx668_0
           try clear hx668_1
           try clear hx668_2
           try clear hx669_0
           try clear hx669_1
           try clear hx669_2
           try clear hx670_0
           try clear hx670_1
           try clear hx670_2
           try clear hx671_0
           try clear hx671_1
           try clear hx671_2
           try clear hx672_0
           try clear hx677_0
           try clear hx677_1
           try clear hx677_2
           try clear hx678_0
           try clear hx678_1
           try clear hx678_2
           try clear p2
           try clear p6
           try clear p667
           try clear p668
           try clear p669
           try clear p670
           try clear p671
           try clear p672
           try clear p677
           try clear p678
           try clear q6
           try clear q667
           try clear q668
           try clear q669
           try clear q670
           try clear q671
           try clear q672
           try clear q677
           try clear q678
           obtain ⟨x12_4, x14_4, rfl, HA, HK4, HO_12, BK664, HB⟩ := hrel
           cases gk with
           | zero => exact absurd HA.out (by simp [spec_BoxesOk.l3])
           | succ k4 =>
            have H := HA.out
            clear HA
            simp only [spec_BoxesOk.l3] at H
            by_cases c45 : 0 ≤ x13_3
            ·
             rw [if_pos c45] at H
             have c45b0 : decide (0 ≤ x13_3) = true := decide_eq_true c45
             clear c45
             by_cases c46 : x13_3 < (l2.length : Int)
             ·
              rw [if_pos c46] at H
              have c46b0 : decide (x13_3 < (l2.length : Int)) = true := decide_eq_true c46
              clear c46
              by_cases c47 : x14_4 < (((rd_T62 l2 x13_3).f2).length : Int)
              ·
               rw [if_pos c47] at H
               have c47b0 : decide (x14_4 < (((rd_T62 l2 x13_3).f2).length : Int)) = true := decide_eq_true c47
               clear c47
               by_cases c48 : 0 ≤ x14_4
               ·
                rw [if_pos c48] at H
                have c48b0 : decide (0 ≤ x14_4) = true := decide_eq_true c48
                clear c48
                replace H := Option.bind_eq_some_iff.mp H
                obtain ⟨t685, A490, H⟩ := H
                replace H : (if t685 = true then (some false) else (if x12_4.length < 17592186044416 then (spec_BoxesOk.l3 k4 l1 l2 x7_2 (x12_4 ++ [rd ((rd_T62 l2 x13_3).f2) x14_4]) x13_3 (wrap64 (x14_4 + 1))) else (none))) = some r := H
                have A49 := Aside0.mk A490
                clear A490
                by_cases c50 : t685 = true
                ·
                 subst c50
                 have H1 : (some false) = some r := by rw [if_pos rfl] at H; exact H
                 clear H
                 have H := H1
                 clear H1
                 obtain rfl := Option.some.inj H
                 have p682 : 0 ≤ (x13_3 : Int) := of_decide_eq_true zf42_1
                 have q682 : x13_3 < (l2.length : Int) := of_decide_eq_true zf42_1
                 obtain ⟨ad682, A682_2, c682_2, e682, hx682_0, hx682_1, hx682_2, hl682_2, hi682_2⟩ := at_T62 HR2.out x13_3 p682 q682
                 cases e682
                 replace hx682_0 := (HB.out.cell (World.block_lt_of_cell? w _ hx682_0)).trans hx682_0
                 replace hx682_1 := (HB.out.cell (World.block_lt_of_cell? w _ hx682_1)).trans hx682_1
                 replace hx682_2 := (HB.out.cell (World.block_lt_of_cell? w _ hx682_2)).trans hx682_2
                 have HR682_2 := Aside0.mk hi682_2
                 have HC682_2 := Aside0.mk hl682_2
                 clear hi682_2 hl682_2
                 replace p682 := eq_true p682
                 replace q682 := eq_true q682
                 have p683 : 0 ≤ (x13_3 : Int) := of_decide_eq_true zf42_1
                 have q683 : x13_3 < (l2.length : Int) := of_decide_eq_true zf42_1
                 obtain ⟨ad683, A683_2, c683_2, e683, hx683_0, hx683_1, hx683_2, hl683_2, hi683_2⟩ := at_T62 HR2.out x13_3 p683 q683
                 obtain rfl : ad682 = ad683 := (by injection e683)
                 replace hx683_0 := (HB.out.cell (World.block_lt_of_cell? w _ hx683_0)).trans hx683_0
                 replace hx683_1 := (HB.out.cell (World.block_lt_of_cell? w _ hx683_1)).trans hx683_1
                 replace hx683_2 := (HB.out.cell (World.block_lt_of_cell? w _ hx683_2)).trans hx683_2
                 have HR683_2 := Aside0.mk hi683_2
                 have HC683_2 := Aside0.mk hl683_2
                 clear hi683_2 hl683_2
                 replace p683 := eq_true p683
                 replace q683 := eq_true q683
                 have ea_ := Option.some.inj (hx682_2.symm.trans hx683_2)
                 injection ea_ with ea_ en_ ec_
                 subst ea_
                 subst ec_
                 clear en_
                 have p684 : 0 ≤ (x14_4 : Int) := of_decide_eq_true zf42_1
                 have q684 : x14_4 < (((rd_T62 l2 x13_3).f2).length : Int) := of_decide_eq_true zf42_1
                 obtain ⟨ad684, e684, hx684_0⟩ := Kd.at_int HR683_2.out x14_4 p684 q684
                 cases e684
                 replace hx684_0 := (HB.out.cell (World.block_lt_of_cell? w _ hx684_0)).trans hx684_0
                 replace p684 := eq_true p684
                 replace q684 := eq_true q684
                 obtain ⟨Ao51, co51, eo51⟩ := Kd.R_slice HO_12.out
                 subst eo51
                 go_wp2_with (go_at_call 75; (with_reducible refine (spec_l03Has.calls k4 _ _ x12_4 (rd ((rd_T62 l2 x13_3).f2) x14_4) true _ ?side1 ?side2 A49.out).mono ?_); (case side1 => repeat (first | exact (Kd.R_reads' HO_12.out).2.2 | (with_reducible refine Kd.C_alloc ?_ _) | (with_reducible refine Kd.C_drewN ?_ _) | (with_reducible refine Kd.C_drew ?_))); (case side2 => exact (Kd.R_reads' HO_12.out).2.1); rintro e w' ⟨rfl, ⟨nd, rfl⟩⟩; (try first | exact ⟨rfl, _, World.drewN_drewN _ _ _⟩ | exact ⟨rfl, _, Eq.trans (World.drewN_drewN _ _ _) (congrArg (World.drewN _) (Nat.add_assoc _ _ _))⟩))
                 go_ret
                 exact ⟨by first | rfl | (simp [errW_none, errW_some] <;> rfl) | (simp [*, errW_none, errW_some] <;> rfl), by repeat (first | (with_reducible first | exact HB.out | apply below_alloc | apply pw_below_drewN | apply below_drew1 | refine below_set ?_ GE664.out) | exact HB.out)⟩
                ·
                 replace c50 := Bool.eq_false_iff.mpr c50
                 subst c50
                 have H1 : (if x12_4.length < 17592186044416 then (spec_BoxesOk.l3 k4 l1 l2 x7_2 (x12_4 ++ [rd ((rd_T62 l2 x13_3).f2) x14_4]) x13_3 (wrap64 (x14_4 + 1))) else (none)) = some r := by rw [if_neg (show ¬ (false = true) by decide)] at H; exact H
                 clear H
                 have H := H1
                 clear H1
                 by_cases c52 : x12_4.length < 17592186044416
                 ·
                  rw [if_pos c52] at H
                  have LMc52 := Aside0.mk c52
                  clear c52
                  obtain ⟨y688, hy688⟩ : ∃ y_ : List Int, y_ = (x12_4 ++ [rd ((rd_T62 l2 x13_3).f2) x14_4]) := ⟨_, rfl⟩
                  replace H : (spec_BoxesOk.l3 k4 l1 l2 x7_2 y688 x13_3 (wrap64 (x14_4 + 1))) = some r := by first | (rw [hy688]; with_reducible exact H) | (have H2_ := (Option.bind_some _ _).symm.trans H; rw [hy688]; with_reducible exact H2_) | (have H2_ := (Option.bind_some _ _).symm.trans H; with_reducible exact H2_) | with_reducible exact H | (rw [hy688]; exact H) | exact H
                  have Ny688 := Aside0.mk hy688
                  clear hy688
                  have H' := Aside0.mk H
                  clear H
                  have p682 : 0 ≤ (x13_3 : Int) := of_decide_eq_true zf42_1
                  have q682 : x13_3 < (l2.length : Int) := of_decide_eq_true zf42_1
                  obtain ⟨ad682, A682_2, c682_2, e682, hx682_0, hx682_1, hx682_2, hl682_2, hi682_2⟩ := at_T62 HR2.out x13_3 p682 q682
                  cases e682
                  replace hx682_0 := (HB.out.cell (World.block_lt_of_cell? w _ hx682_0)).trans hx682_0
                  replace hx682_1 := (HB.out.cell (World.block_lt_of_cell? w _ hx682_1)).trans hx682_1
                  replace hx682_2 := (HB.out.cell (World.block_lt_of_cell? w _ hx682_2)).trans hx682_2
                  have HR682_2 := Aside0.mk hi682_2
                  have HC682_2 := Aside0.mk hl682_2
                  clear hi682_2 hl682_2
                  replace p682 := eq_true p682
                  replace q682 := eq_true q682
                  have p683 : 0 ≤ (x13_3 : Int) := of_decide_eq_true zf42_1
                  have q683 : x13_3 < (l2.length : Int) := of_decide_eq_true zf42_1
                  obtain ⟨ad683, A683_2, c683_2, e683, hx683_0, hx683_1, hx683_2, hl683_2, hi683_2⟩ := at_T62 HR2.out x13_3 p683 q683
                  obtain rfl : ad682 = ad683 := (by injection e683)
                  replace hx683_0 := (HB.out.cell (World.block_lt_of_cell? w _ hx683_0)).trans hx683_0
                  replace hx683_1 := (HB.out.cell (World.block_lt_of_cell? w _ hx683_1)).trans hx683_1
                  replace hx683_2 := (HB.out.cell (World.block_lt_of_cell? w _ hx683_2)).trans hx683_2
                  have HR683_2 := Aside0.mk hi683_2
                  have HC683_2 := Aside0.mk hl683_2
                  clear hi683_2 hl683_2
                  replace p683 := eq_true p683
                  replace q683 := eq_true q683
                  have ea_ := Option.some.inj (hx682_2.symm.trans hx683_2)
                  injection ea_ with ea_ en_ ec_
                  subst ea_
                  subst ec_
                  clear en_
                  have p684 : 0 ≤ (x14_4 : Int) := of_decide_eq_true zf42_1
                  have q684 : x14_4 < (((rd_T62 l2 x13_3).f2).length : Int) := of_decide_eq_true zf42_1
                  obtain ⟨ad684, e684, hx684_0⟩ := Kd.at_int HR683_2.out x14_4 p684 q684
                  cases e684
                  replace hx684_0 := (HB.out.cell (World.block_lt_of_cell? w _ hx684_0)).trans hx684_0
                  replace p684 := eq_true p684
                  replace q684 := eq_true q684
                  obtain ⟨Ao53, co53, eo53⟩ := Kd.R_slice HO_12.out
                  subst eo53
                  go_wp2_with (first | (go_at_call 75; (with_reducible refine (spec_l03Has.calls k4 _ _ x12_4 (rd ((rd_T62 l2 x13_3).f2) x14_4) false _ ?side1 ?side2 A49.out).mono ?_); (case side1 => repeat (first | exact (Kd.R_reads' HO_12.out).2.2 | (with_reducible refine Kd.C_alloc ?_ _) | (with_reducible refine Kd.C_drewN ?_ _) | (with_reducible refine Kd.C_drew ?_))); (case side2 => exact (Kd.R_reads' HO_12.out).2.1); rintro e w' ⟨rfl, ⟨nd, rfl⟩⟩; (try first | exact ⟨rfl, _, World.drewN_drewN _ _ _⟩ | exact ⟨rfl, _, Eq.trans (World.drewN_drewN _ _ _) (congrArg (World.drewN _) (Nat.add_assoc _ _ _))⟩); have p686 : 0 ≤ (x13_3 : Int) := of_decide_eq_true zf42_1; have q686 : x13_3 < (l2.length : Int) := of_decide_eq_true zf42_1; obtain ⟨ad686, A686_2, c686_2, e686, hx686_0, hx686_1, hx686_2, hl686_2, hi686_2⟩ := at_T62 HR2.out x13_3 p686 q686; obtain rfl : ad682 = ad686 := (by injection e686); replace hx686_0 := (HB.out.cell (World.block_lt_of_cell? w _ hx686_0)).trans hx686_0; replace hx686_1 := (HB.out.cell (World.block_lt_of_cell? w _ hx686_1)).trans hx686_1; replace hx686_2 := (HB.out.cell (World.block_lt_of_cell? w _ hx686_2)).trans hx686_2; have HR686_2 := Aside0.mk hi686_2; have HC686_2 := Aside0.mk hl686_2; clear hi686_2 hl686_2; replace p686 := eq_true p686; replace q686 := eq_true q686; have ea_ := Option.some.inj (hx682_2.symm.trans hx686_2); injection ea_ with ea_ en_ ec_; subst ea_; subst ec_; clear en_; have p687 : 0 ≤ (x14_4 : Int) := of_decide_eq_true zf42_1; have q687 : x14_4 < (((rd_T62 l2 x13_3).f2).length : Int) := of_decide_eq_true zf42_1; obtain ⟨ad687, e687, hx687_0⟩ := Kd.at_int HR686_2.out x14_4 p687 q687; cases e687; replace hx687_0 := (HB.out.cell (World.block_lt_of_cell? w _ hx687_0)).trans hx687_0; replace p687 := eq_true p687; replace q687 := eq_true q687) | ((with_reducible refine gate_builtin (b := .append) (xs := #[.tmp 130, .tmp 139]) rfl ?_); (try (refine gate_guard (by rfl) ?_; dsimp only)); at_builtin; refine Kd.R_append (Kd.int .i64) (w0 := w) w.heap.size rfl (.tmp 130) (.tmp 139) 22 3 (.int .i64 0) 8 rfl Try.underlying22 info3 rfl (by decide) (by omega) (.slice Ao53 x12_4.length co53) x12_4 (rd ((rd_T62 l2 x13_3).f2) x14_4) [.int .i64 (rd ((rd_T62 l2 x13_3).f2) x14_4)] (fun _ => True) (fun _ => False) rfl rfl ?aP (fun _ hk => hk.elim) ?aF ?aO ?aB ?aS ?aL ?_; (case aP => exact rfl); (case aB => exact zf42_0); (case aF => exact (fun _ _ => trivial)); (case aO => exact (by (with_reducible repeat (first | apply Kd.R_alloc | apply Kd.R_drewN | apply Kd.R_drew)); exact HO_12.out)); (case aS => exact (below_size zf42_0)); (case aL => have := LMc52.out; omega); intro v689 w54 ho hb hg hat; rw [← Ny688.out] at ho; have n0_ := Aside0.mk (blk_grown (g := gb664) (o := .cells #[.int .i64 a0_0, .int .i64 a0_1] 49 (0, 0)) zf42_2 hg (Kd.R_ne HO_12.out BK664.out (by decide))); have n1_ := Aside0.mk (hb); have n2_ := Aside0.mk (ho); clear BK664; clear HB; clear HO_12; have BK664 := n0_; have HB := n1_; have HO690 := n2_; clear n0_ n1_ n2_; clear ho hb hg hat))
                  go_roundg k4
                  case measure => have := HJ3.out; have := HK2.out; have := HK3.out; have := HK4.out; omega
                  case rel => exact ⟨(y688), (wrap64 (x14_4 + 1)), zf42_3, H', ⟨by have := HJ3.out; have := HK2.out; have := HK3.out; have := HK4.out; omega⟩, ⟨by (with_reducible repeat (first | apply Kd.R_alloc | apply Kd.R_drewN | apply Kd.R_drew)); exact HO690.out⟩, ⟨by (with_reducible repeat (first | refine blk_drewN ?_ _ | refine blk_drew ?_ | refine blk_alloc ?_ _)); exact BK664.out⟩, ⟨by repeat (first | (with_reducible first | exact HB.out | apply below_alloc | apply pw_below_drewN | apply below_drew1 | refine below_set ?_ GE664.out) | exact HB.out)⟩⟩
                 ·
                  rw [if_neg c52] at H
                  exact absurd H (by simp)
               ·
                rw [if_neg c48] at H
                exact absurd H (by simp)
              ·
               rw [if_neg c47] at H
               have c47b0 : decide (x14_4 < (((rd_T62 l2 x13_3).f2).length : Int)) = false := decide_eq_false c47
               clear c47
               have H' := Aside0.mk H
               clear H
               have p682 : 0 ≤ (x13_3 : Int) := of_decide_eq_true zf42_1
               have q682 : x13_3 < (l2.length : Int) := of_decide_eq_true zf42_1
               obtain ⟨ad682, A682_2, c682_2, e682, hx682_0, hx682_1, hx682_2, hl682_2, hi682_2⟩ := at_T62 HR2.out x13_3 p682 q682
               cases e682
               replace hx682_0 := (HB.out.cell (World.block_lt_of_cell? w _ hx682_0)).trans hx682_0
               replace hx682_1 := (HB.out.cell (World.block_lt_of_cell? w _ hx682_1)).trans hx682_1
               replace hx682_2 := (HB.out.cell (World.block_lt_of_cell? w _ hx682_2)).trans hx682_2
               have HR682_2 := Aside0.mk hi682_2
               have HC682_2 := Aside0.mk hl682_2
               clear hi682_2 hl682_2
               replace p682 := eq_true p682
               replace q682 := eq_true q682
               go_wp2
               go_roundg k4
               case measure => have := HJ3.out; have := HK2.out; have := HK3.out; have := HK4.out; omega
               case rel => exact ⟨(x12_4), (wrap64 (x13_3 + 1)), zf42_3, H', ⟨by have := HJ3.out; have := HK2.out; have := HK3.out; have := HK4.out; omega⟩, ⟨by (with_reducible repeat (first | apply Kd.R_alloc | apply Kd.R_drewN | apply Kd.R_drew)); exact HO_12.out⟩, ⟨by (with_reducible repeat (first | refine blk_drewN ?_ _ | refine blk_drew ?_ | refine blk_alloc ?_ _)); exact BK664.out⟩, ⟨by repeat (first | (with_reducible first | exact HB.out | apply below_alloc | apply pw_below_drewN | apply below_drew1 | refine below_set ?_ GE664.out) | exact HB.out)⟩⟩
             ·
              rw [if_neg c46] at H
              exact absurd H (by simp)
            ·
             rw [if_neg c45] at H
             exact absurd H (by simp)
         ·
          rw [if_neg c44] at H
          have c44b0 : decide (x13_3 < (l2.length : Int)) = false := decide_eq_false c44
          clear c44
          obtain rfl := Option.some.inj H
          go_wp2
          go_ret
          exact ⟨by first | rfl | (simp [errW_none, errW_some] <;> rfl) | (simp [*, errW_none, errW_some] <;> rfl), by repeat (first | (with_reducible first | exact HB.out | apply below_alloc | apply pw_below_drewN | apply below_drew1 | refine below_set ?_ GE664.out) | exact HB.out)⟩

end Go.Proofs.Ytnldmnlfocigaaa.F

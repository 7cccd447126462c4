-- PRINTED by print.py (a twelfth state) out of the translation. Not trusted: Lean checks it.
import Derived.Test.YtnldmnlfocigaaaF
import Derived.Test.YtnldmnlfocigaaaAuto
namespace Go.Proofs.Ytnldmnlfocigaaa.F
open Go.Proofs.Ytnldmnlfocigaaa.Opn Go.Proofs.Ytnldmnlfocigaaa.Auto
open Go.RowKit Go.Proofs.YtnldmnlfocigaaaW.PrintWords Go.Proofs.YtnldmnlfocigaaaW.PrintLast
set_option linter.unusedVariables false
set_option linter.unusedSimpArgs false

theorem zf80_12 {p : Prop} (h : p := by (with_reducible repeat (first | apply Kd.R_alloc | apply Kd.R_drewN | apply Kd.R_drew)); exact Kd.R_mono HO572.out (fun _ hk => hk.2)) : p := h
theorem zf80_11 {p : Prop} (h : p := by simp only [putAll, Act.put, List.setIfInBounds_toArray, List.set_cons_zero, List.set_cons_succ]) : p := h
theorem zf80_10 {p : Prop} (h : p := by (with_reducible repeat (first | apply Kd.R_alloc | apply Kd.R_drewN | apply Kd.R_drew)); exact HO572.out) : p := h
theorem zf80_9 {p : Prop} (h : p := by repeat (first | (with_reducible first | exact HB.out | apply below_alloc | apply pw_below_drewN | apply below_drew1) | exact HB.out)) : p := h
theorem zf80_8 {p : Prop} (h : p := by (with_reducible repeat (first | apply Kd.R_alloc | apply Kd.R_drewN | apply Kd.R_drew)); exact Kd.R_mono HO578.out (fun _ hk => hk.2)) : p := h
theorem zf80_7 {p : Prop} (h : p := by repeat (first | (with_reducible first | exact HB.out | apply below_alloc | apply pw_below_drewN | apply below_drew1 | refine below_set ?_ GE567.out) | exact HB.out)) : p := h
theorem zf80_6 {p : Prop} (h : p := by repeat (first | (with_reducible first | exact HB.out | apply below_alloc | apply pw_below_drewN | apply below_drew1 | refine below_set ?_ GE567.out | refine below_set ?_ GE568.out) | exact HB.out)) : p := h
theorem zf80_5 {p : Prop} (h : p := by (with_reducible repeat (first | apply Kd.R_alloc | apply Kd.R_drewN | apply Kd.R_drew)); exact HO575.out) : p := h
theorem zf80_4 {p : Prop} (h : p := by (with_reducible repeat (first | apply Kd.R_alloc | apply Kd.R_drewN | apply Kd.R_drew)); exact HO578.out) : p := h
theorem zf80_3 {p : Prop} (h : p := by (with_reducible repeat (first | refine blk_drewN ?_ _ | refine blk_drew ?_ | refine blk_alloc ?_ _)); exact BK569.out) : p := h
theorem zf80_2 {p : Prop} (h : p := by (with_reducible repeat (first | refine blk_drewN ?_ _ | refine blk_drew ?_ | refine blk_alloc ?_ _)); exact BK568.out) : p := h
theorem zf80_1 {p : Prop} (h : p := by (with_reducible repeat (first | refine blk_drewN ?_ _ | refine blk_drew ?_ | refine blk_alloc ?_ _)); exact BK567.out) : p := h
theorem zf80_0 {p : Prop} (h : p := by repeat (first | (with_reducible first | exact HB.out | apply below_alloc | apply pw_below_drewN | apply below_drew1 | refine below_set ?_ GE567.out | refine below_set ?_ GE568.out | refine below_set ?_ GE569.out) | exact HB.out)) : p := h
/-! ### spec_l07With: function 80 -/
def spec_l07With.f (a0_0 : Int) (a0_1 : Int) (l0_2 : List Int) (a1_0 : Int) (a1_1 : Int) (a1_2 : Int) : Option (Int × Int × List Int) := (some (([] : List Int) : List Int)).bind fun y570 => (if y570.length + l0_2.length < 17592186044416 then ((some (y570 ++ l0_2 : List Int)).bind fun y573 => ((some (([a1_0] : List Int) : List Int)).bind fun y576 => (if y573.length + y576.length < 17592186044416 then (some (a1_2, wrap64 (a0_1 + a1_1), (y573 ++ y576))) else (none)))) else (none))
def spec_l07With.T1 : Bool × List (List Nat × List Nat) := (true, [([], []), ([0], [0]), ([], []), ([2], [2]), ([], []), ([4], [4]), ([3, 5], [3, 5]), ([], []), ([], []), ([8], [8]), ([7, 9], [7, 9]), ([], []), ([11], [11]), ([12], [12]), ([10, 13, 10], [10, 13]), ([1, 6, 14], [1, 6, 14]), ([15, 14, 0, 1, 2, 3, 4, 5, 6, 7, 8, 9, 10, 11, 12, 13, 14, 15], [15])])
def spec_l07With.B1 : List Nat := [0, 1, 0, 4, 0, 16, 60, 0, 0, 256, 896, 0, 2048, 6144, 16256, 32767, 65535]
theorem spec_l07With.tab1 : rtab .any (opsOf Try.f80 1) = spec_l07With.T1 := by kernel_rfl
theorem spec_l07With.bits1 : waitsOk spec_l07With.T1.2 spec_l07With.B1 = true := by kernel_rfl
set_option maxHeartbeats 8000000 in
set_option maxRecDepth 100000 in
theorem spec_l07With.calls (a0_0 : Int) (a0_1 : Int) (A0_2 : Option Addr) (c0_2 : Nat) (l0_2 : List Int) (a1_0 : Int) (a1_1 : Int) (a1_2 : Int) (r1 : Int) (r2 : Int) (r3 : List Int) (w : World) (hr0_2 : Kd.C (Kd.int .i64) w A0_2 l0_2.length l0_2) (hc0_2 : l0_2.length ≤ c0_2) (h : spec_l07With.f a0_0 a0_1 l0_2 a1_0 a1_1 a1_2 = some (r1, r2, r3)) :
    Calls Try.prog 80 #[.agg #[.int .i64 a0_0, .int .i64 a0_1, .slice A0_2 l0_2.length c0_2], .agg #[.int .i64 a1_0, .int .i64 a1_1, .int .i64 a1_2]] w fun e w' => ∃ v2_ : Value, e = .returned (.agg #[.int .i64 r1, .int .i64 r2, v2_]) ∧ Kd.R (Kd.int .i64) 3 w' w.heap.size (fun _ => True) v2_ r3 ∧ Below w.heap.size w w' := by
  have hu62 := Try.underlying62
  have hu80 := Try.underlying80
  have HR0_2 := Aside0.mk hr0_2
  have HC0_2 := Aside0.mk hc0_2
  clear hr0_2 hc0_2
  have HB := Aside0.mk (Below.refl w.heap.size w)
  have H : ((some (([] : List Int) : List Int)).bind fun y570 => (if y570.length + l0_2.length < 17592186044416 then ((some (y570 ++ l0_2 : List Int)).bind fun y573 => ((some (([a1_0] : List Int) : List Int)).bind fun y576 => (if y573.length + y576.length < 17592186044416 then (some (a1_2, wrap64 (a0_1 + a1_1), (y573 ++ y576))) else (none)))) else (none))) = some (r1, r2, r3) := h
  clear h
  obtain ⟨y570, hy570⟩ : ∃ y_ : List Int, y_ = (([] : List Int)) := ⟨_, rfl⟩
  replace H : (if y570.length + l0_2.length < 17592186044416 then ((some (y570 ++ l0_2 : List Int)).bind fun y573 => ((some (([a1_0] : List Int) : List Int)).bind fun y576 => (if y573.length + y576.length < 17592186044416 then (some (a1_2, wrap64 (a0_1 + a1_1), (y573 ++ y576))) else (none)))) else (none)) = some (r1, r2, r3) := by first | (rw [hy570]; with_reducible exact H) | (have H2_ := (Option.bind_some _ _).symm.trans H; rw [hy570]; with_reducible exact H2_) | (have H2_ := (Option.bind_some _ _).symm.trans H; with_reducible exact H2_) | with_reducible exact H | (rw [hy570]; exact H) | exact H
  have Ny570 := Aside0.mk hy570
  clear hy570
  by_cases c3 : y570.length + l0_2.length < 17592186044416
  · rw [if_pos c3] at H
    have LMc3 := Aside0.mk c3
    clear c3
    obtain ⟨y573, hy573⟩ : ∃ y_ : List Int, y_ = (y570 ++ l0_2) := ⟨_, rfl⟩
    replace H : ((some (([a1_0] : List Int) : List Int)).bind fun y576 => (if y573.length + y576.length < 17592186044416 then (some (a1_2, wrap64 (a0_1 + a1_1), (y573 ++ y576))) else (none))) = some (r1, r2, r3) := by first | (rw [hy573]; with_reducible exact H) | (have H2_ := (Option.bind_some _ _).symm.trans H; rw [hy573]; with_reducible exact H2_) | (have H2_ := (Option.bind_some _ _).symm.trans H; with_reducible exact H2_) | with_reducible exact H | (rw [hy573]; exact H) | exact H
    have Ny573 := Aside0.mk hy573
    clear hy573
    obtain ⟨y576, hy576⟩ : ∃ y_ : List Int, y_ = (([a1_0] : List Int)) := ⟨_, rfl⟩
    replace H : (if y573.length + y576.length < 17592186044416 then (some (a1_2, wrap64 (a0_1 + a1_1), (y573 ++ y576))) else (none)) = some (r1, r2, r3) := by first | (rw [hy576]; with_reducible exact H) | (have H2_ := (Option.bind_some _ _).symm.trans H; rw [hy576]; with_reducible exact H2_) | (have H2_ := (Option.bind_some _ _).symm.trans H; with_reducible exact H2_) | with_reducible exact H | (rw [hy576]; exact H) | exact H
    have Ny576 := Aside0.mk hy576
    clear hy576
    by_cases c4 : y573.length + y576.length < 17592186044416
    · rw [if_pos c4] at H
      have LMc4 := Aside0.mk c4
      clear c4
      obtain ⟨y579, hy579⟩ : ∃ y_ : List Int, y_ = (y573 ++ y576) := ⟨_, rfl⟩
      replace H : (some (a1_2, wrap64 (a0_1 + a1_1), y579)) = some (r1, r2, r3) := by first | (rw [hy579]; with_reducible exact H) | (have H2_ := (Option.bind_some _ _).symm.trans H; rw [hy579]; with_reducible exact H2_) | (have H2_ := (Option.bind_some _ _).symm.trans H; with_reducible exact H2_) | with_reducible exact H | (rw [hy579]; exact H) | exact H
      have Ny579 := Aside0.mk hy579
      clear hy579
      simp only [Option.some.injEq, Prod.mk.injEq] at H
      obtain ⟨rfl, rfl, rfl⟩ := H
      go_enter Try.func80, Try.ntmps80
      try go_wp2_with (first | ((with_reducible refine gate_dst (N := 2) rfl ?_); refine box_event ?hg (N := 2) ?hd (cs := #[.int .i64 a0_0, .int .i64 a0_1, .slice A0_2 l0_2.length c0_2]) (t := 62) ?hr ?_; (case hd => rfl); (case hg => rfl); (case hr => first | (go_simp; done) | (go_simp; rfl)); intro gb567 hg w5 hbox hb; have n0_ := Aside0.mk (below_step zf80_9 hb); have n1_ := Aside0.mk (hbox); have n2_ := Aside0.mk ((by rw [hg]; exact (below_size zf80_9) : w.heap.size ≤ gb567)); have n3_ := Aside0.mk ((by rw [hg]; exact (below_size zf80_9) : w.heap.size ≤ gb567)); clear HB; have HB := n0_; have BK567 := n1_; have GW567 := n2_; have GE567 := n3_; clear n0_ n1_ n2_ n3_; clear hb hbox hg) | ((with_reducible refine gate_dst (N := 3) rfl ?_); refine box_event ?hg (N := 3) ?hd (cs := #[.int .i64 a1_0, .int .i64 a1_1, .int .i64 a1_2]) (t := 80) ?hr ?_; (case hd => rfl); (case hg => rfl); (case hr => first | (go_simp; done) | (go_simp; rfl)); intro gb568 hg w6 hbox hb; have n0_ := Aside0.mk (blk_below (g := gb567) (o := .cells #[.int .i64 a0_0, .int .i64 a0_1, .slice A0_2 l0_2.length c0_2] 62 (0, 0)) zf80_1 hb); have n1_ := Aside0.mk (below_step zf80_7 hb); have n2_ := Aside0.mk (hbox); have n3_ := Aside0.mk ((by rw [hg]; exact (below_size zf80_7) : w.heap.size ≤ gb568)); have n4_ := Aside0.mk ((by rw [hg]; exact (below_size zf80_7) : w.heap.size ≤ gb568)); have n5_ := Aside0.mk ((by rw [hg]; exact Nat.ne_of_lt (blk_lt (g := gb567) (o := .cells #[.int .i64 a0_0, .int .i64 a0_1, .slice A0_2 l0_2.length c0_2] 62 (0, 0)) zf80_1) : gb567 ≠ gb568)); have n6_ := Aside0.mk ((by rw [hg]; exact Nat.ne_of_gt (blk_lt (g := gb567) (o := .cells #[.int .i64 a0_0, .int .i64 a0_1, .slice A0_2 l0_2.length c0_2] 62 (0, 0)) zf80_1) : gb568 ≠ gb567)); clear BK567; clear HB; have BK567 := n0_; have HB := n1_; have BK568 := n2_; have GW568 := n3_; have GE568 := n4_; have NB567_568 := n5_; have NB568_567 := n6_; clear n0_ n1_ n2_ n3_ n4_ n5_ n6_; clear hb hbox hg) | ((with_reducible refine gate_dst (N := 4) rfl ?_); refine box_event ?hg (N := 4) ?hd (cs := #[.int .i64 0, .int .i64 0, .slice none 0 0]) (t := 62) ?hr ?_; (case hd => rfl); (case hg => rfl); (case hr => first | (go_simp; done) | (go_simp; rfl)); intro gb569 hg w7 hbox hb; have n0_ := Aside0.mk (blk_below (g := gb567) (o := .cells #[.int .i64 a0_0, .int .i64 a0_1, .slice A0_2 l0_2.length c0_2] 62 (0, 0)) zf80_1 hb); have n1_ := Aside0.mk (blk_below (g := gb568) (o := .cells #[.int .i64 a1_0, .int .i64 a1_1, .int .i64 a1_2] 80 (0, 0)) zf80_2 hb); have n2_ := Aside0.mk (below_step zf80_6 hb); have n3_ := Aside0.mk (hbox); have n4_ := Aside0.mk ((by rw [hg]; exact (below_size zf80_6) : w.heap.size ≤ gb569)); have n5_ := Aside0.mk ((by rw [hg]; exact (below_size zf80_6) : w.heap.size ≤ gb569)); have n6_ := Aside0.mk ((by rw [hg]; exact Nat.ne_of_lt (blk_lt (g := gb567) (o := .cells #[.int .i64 a0_0, .int .i64 a0_1, .slice A0_2 l0_2.length c0_2] 62 (0, 0)) zf80_1) : gb567 ≠ gb569)); have n7_ := Aside0.mk ((by rw [hg]; exact Nat.ne_of_gt (blk_lt (g := gb567) (o := .cells #[.int .i64 a0_0, .int .i64 a0_1, .slice A0_2 l0_2.length c0_2] 62 (0, 0)) zf80_1) : gb569 ≠ gb567)); have n8_ := Aside0.mk ((by rw [hg]; exact Nat.ne_of_lt (blk_lt (g := gb568) (o := .cells #[.int .i64 a1_0, .int .i64 a1_1, .int .i64 a1_2] 80 (0, 0)) zf80_2) : gb568 ≠ gb569)); have n9_ := Aside0.mk ((by rw [hg]; exact Nat.ne_of_gt (blk_lt (g := gb568) (o := .cells #[.int .i64 a1_0, .int .i64 a1_1, .int .i64 a1_2] 80 (0, 0)) zf80_2) : gb569 ≠ gb568)); clear BK567; clear BK568; clear HB; have BK567 := n0_; have BK568 := n1_; have HB := n2_; have BK569 := n3_; have GW569 := n4_; have GE569 := n5_; have NB567_569 := n6_; have NB569_567 := n7_; have NB568_569 := n8_; have NB569_568 := n9_; clear n0_ n1_ n2_ n3_ n4_ n5_ n6_ n7_ n8_ n9_; clear hb hbox hg))
      have n0_ := Aside0.mk (blk_drew BK567.out)
      have n1_ := Aside0.mk (blk_drew BK568.out)
      have n2_ := Aside0.mk (blk_drew BK569.out)
      have n3_ := Aside0.mk (below_drew1 HB.out)
      clear BK567
      clear BK568
      clear BK569
      clear HB
      have BK567 := n0_
      have BK568 := n1_
      have BK569 := n2_
      have HB := n3_
      clear n0_ n1_ n2_ n3_
      refine start_ (n := 17) (S := fun w' => w'.cell? ⟨gb568, 0, none⟩ = some (.int .i64 a1_0) ∧ w'.cell? ⟨gb568, 1, none⟩ = some (.int .i64 a1_1) ∧ w'.cell? ⟨gb568, 2, none⟩ = some (.int .i64 a1_2) ∧ w'.cell? ⟨gb567, 0, none⟩ = some (.int .i64 a0_0) ∧ w'.cell? ⟨gb567, 1, none⟩ = some (.int .i64 a0_1) ∧ w'.cell? ⟨gb567, 2, none⟩ = some (.slice A0_2 l0_2.length c0_2)) (ds := []) #[false, false, false, false, false, false, false, false, false, false, false, false, false, false, false, false, false] (by kernel_rfl) rfl rfl ⟨(blk_cell BK568.out 0).trans rfl, (blk_cell BK568.out 1).trans rfl, (blk_cell BK568.out 2).trans rfl, (blk_cell BK567.out 0).trans rfl, (blk_cell BK567.out 1).trans rfl, (blk_cell BK567.out 2).trans rfl⟩ (fun hHeld => ?_); refine with_tabW spec_l07With.tab1 spec_l07With.bits1 (fun HT_ HW_ => ?_)
      generalize w7.drew = w8 at BK567 BK568 BK569 HB hHeld ⊢
      refine pS 0 5 ?_
      refine pS 2 7 ?_
      refine pS 4 9 ?_
      refine pS 8 13 ?_
      refine pS 11 16 ?_
      refine tS 1 6 ?_
      refine tS 3 8 ?_
      refine tS 5 10 ?_
      refine pS 6 11 ?_
      refine tS 9 14 ?_
      refine tS 12 17 ?_
      refine join_ (σ := Value × Value × Value) 3 #[true, true, true, true, true, true, true, true, true, true, true, true, true, true, false, false, false] (fun s_ => [(12, s_.1), (15, s_.2.1), (18, s_.2.2)]) (fun s_ w' => (w'.cell? ⟨gb568, 0, none⟩ = some (.int .i64 a1_0) ∧ w'.cell? ⟨gb568, 1, none⟩ = some (.int .i64 a1_1) ∧ w'.cell? ⟨gb568, 2, none⟩ = some (.int .i64 a1_2) ∧ w'.cell? ⟨gb567, 0, none⟩ = some (.int .i64 a0_0) ∧ w'.cell? ⟨gb567, 1, none⟩ = some (.int .i64 a0_1) ∧ w'.cell? ⟨gb567, 2, none⟩ = some (.slice A0_2 l0_2.length c0_2)) ∧ (Kd.R (Kd.int .i64) 3 w' w.heap.size (fun k_ => some k_ ≠ (s_.2.2 : Value).ownBlock) s_.2.1 y573) ∧ (Kd.R (Kd.int .i64) 3 w' w.heap.size (fun k_ => some k_ ≠ (s_.2.1 : Value).ownBlock) s_.2.2 y576) ∧ (w'.heap[gb567]? = some (.cells #[.int .i64 a0_0, .int .i64 a0_1, .slice A0_2 l0_2.length c0_2] 62 (0, 0))) ∧ (w'.heap[gb568]? = some (.cells #[.int .i64 a1_0, .int .i64 a1_1, .int .i64 a1_2] 80 (0, 0))) ∧ (w'.heap[gb569]? = some (.cells #[.int .i64 0, .int .i64 0, .slice none 0 0] 62 (0, 0))) ∧ (Below w.heap.size w w')) ?_ ?_
      rotate_left
      · intro hCont
        refine two_ (i := 7) (j := 13) (Ni := some 12) (Nj := some 18) #[true, true, true, true, true, true, true, true, true, true, false, true, true, false, false, false, false] #[true, true, true, true, true, true, true, false, true, true, false, true, true, true, false, false, false] rfl rfl rfl rfl (two_of HT_.out (by kernel_rfl)) (by decide) (by decide) (fun K hK => ?_) (fun K hK => ?_)
        · skip
          refine Kd.R_lit_step (Kd.int .i64) _ 3 ?hg (N := 12) ?hd (xs := ([] : List Int)) (inner := []) (ok := fun _ => True) (okp := fun _ => True) ?hr ?hp (fun _ hk => hk) trivial (Below.refl _ _) (Nat.le_refl _) (by simp) ?_; (case hd => rfl); (case hg => rfl); (case hr => first | (go_simp; done) | (go_simp; rfl)); (case hp => exact (Reps.none _ _))
          intro v571 w9 ho10 hb hg_ hnew_
          clear hg_ hnew_
          (first | rw [← Ny570.out] at ho10 | (simp only [Int.reduceToNat] at ho10; rw [← Ny570.out] at ho10))
          have n0_ := Aside0.mk (Kd.R_lower ho10 (below_size zf80_0))
          have n1_ := Aside0.mk (blk_below (g := gb567) (o := .cells #[.int .i64 a0_0, .int .i64 a0_1, .slice A0_2 l0_2.length c0_2] 62 (0, 0)) zf80_1 hb)
          have n2_ := Aside0.mk (blk_below (g := gb568) (o := .cells #[.int .i64 a1_0, .int .i64 a1_1, .int .i64 a1_2] 80 (0, 0)) zf80_2 hb)
          have n3_ := Aside0.mk (blk_below (g := gb569) (o := .cells #[.int .i64 0, .int .i64 0, .slice none 0 0] 62 (0, 0)) zf80_3 hb)
          have n4_ := Aside0.mk (below_step zf80_0 hb)
          clear BK567
          clear BK568
          clear BK569
          clear HB
          have HO572 := n0_
          have BK567 := n1_
          have BK568 := n2_
          have BK569 := n3_
          have HB := n4_
          clear n0_ n1_ n2_ n3_ n4_
          clear hb ho10
          refine hK.out _ _ ⟨(blk_cell BK568.out 0).trans rfl, (blk_cell BK568.out 1).trans rfl, (blk_cell BK568.out 2).trans rfl, (blk_cell BK567.out 0).trans rfl, (blk_cell BK567.out 1).trans rfl, (blk_cell BK567.out 2).trans rfl⟩ (fun hHeld => ?_)
          clear hK K
          refine norm_ (a' := ?_) ?_ ?_
          rotate_left
          · show Act.put _ (some 12) _ = _
            simp only [Act.put, List.setIfInBounds_toArray, List.set_cons_zero, List.set_cons_succ, i64_w, i32_w]
            rfl
          refine two_ (i := 10) (j := 13) (Ni := some 15) (Nj := some 18) #[true, true, true, true, true, true, true, true, true, true, true, true, true, false, false, false, false] #[true, true, true, true, true, true, true, true, true, true, false, true, true, true, false, false, false] rfl rfl rfl rfl (two_of HT_.out (by kernel_rfl)) (by decide) (by decide) (fun K hK => ?_) (fun K hK => ?_)
          · skip
            refine Kd.R_append_rows_step (Kd.int .i64) (w0 := w) w.heap.size (by rfl) (.tmp 12) (.tmp 14) 22 3 (.int .i64 0) 8 rfl Try.underlying22 info3 rfl (by decide) (by omega) v571 y570 l0_2 _ _ _ (fun _ => True) (fun _ => False) rfl rfl ?aO ?aR (fun _ _ h => h) (fun _ h => h.elim) ?aF ?aB ?aS ?aL ?_
            (case aR => repeat (first | exact (Kd.C_below HR0_2.out HB.out) | (with_reducible refine Kd.C_alloc ?_ _) | (with_reducible refine Kd.C_drewN ?_ _) | (with_reducible refine Kd.C_drew ?_)))
            (case aB => exact zf80_0)
            (case aF => exact (fun _ _ => trivial))
            (case aO => exact zf80_10)
            (case aS => exact (below_size zf80_0))
            (case aL => have := LMc3.out; omega)
            intro v574 w11 ho hb hg hat
            rw [← Ny573.out] at ho
            have n0_ := Aside0.mk (blk_grown (g := gb567) (o := .cells #[.int .i64 a0_0, .int .i64 a0_1, .slice A0_2 l0_2.length c0_2] 62 (0, 0)) zf80_1 hg (Kd.R_ne HO572.out BK567.out (by decide)))
            have n1_ := Aside0.mk (blk_grown (g := gb568) (o := .cells #[.int .i64 a1_0, .int .i64 a1_1, .int .i64 a1_2] 80 (0, 0)) zf80_2 hg (Kd.R_ne HO572.out BK568.out (by decide)))
            have n2_ := Aside0.mk (blk_grown (g := gb569) (o := .cells #[.int .i64 0, .int .i64 0, .slice none 0 0] 62 (0, 0)) zf80_3 hg (Kd.R_ne HO572.out BK569.out (by decide)))
            have n3_ := Aside0.mk (hb)
            have n4_ := Aside0.mk (ho)
            clear BK567
            clear BK568
            clear BK569
            clear HB
            clear HO572
            have BK567 := n0_
            have BK568 := n1_
            have BK569 := n2_
            have HB := n3_
            have HO575 := n4_
            clear n0_ n1_ n2_ n3_ n4_
            clear ho hb hg hat
            refine hK.out _ _ ⟨(blk_cell BK568.out 0).trans rfl, (blk_cell BK568.out 1).trans rfl, (blk_cell BK568.out 2).trans rfl, (blk_cell BK567.out 0).trans rfl, (blk_cell BK567.out 1).trans rfl, (blk_cell BK567.out 2).trans rfl⟩ (fun hHeld => ?_)
            clear hK K
            refine norm_ (a' := ?_) ?_ ?_
            rotate_left
            · show Act.put _ (some 15) _ = _
              simp only [Act.put, List.setIfInBounds_toArray, List.set_cons_zero, List.set_cons_succ, i64_w, i32_w]
              rfl
            refine one_ (i := 13) (N := some 18) #[true, true, true, true, true, true, true, true, true, true, true, true, true, true, false, false, false] rfl rfl (one_of HT_.out (by kernel_rfl)) (by decide) (fun K hK => ?_)
            refine Kd.R_lit_step (Kd.int .i64) _ 3 ?hg (N := 18) ?hd (xs := ([a1_0] : List Int)) (inner := [.int .i64 a1_0]) (ok := fun _ => True) (okp := fun _ => True) ?hr ?hp (fun _ hk => hk) trivial (Below.refl _ _) (Nat.le_refl _) (by simp) ?_; (case hd => rfl); (case hg => rfl); (case hr => first | (go_simp; done) | (go_simp; rfl)); (case hp => exact (Reps.one (show Kd.M (Kd.int .i64) _ _ _ a1_0 [.int .i64 a1_0] from rfl) (Reps.none _ _)))
            intro v577 w12 ho13 hb hg_ hnew_
            clear hg_ hnew_
            (first | rw [← Ny576.out] at ho13 | (simp only [Int.reduceToNat] at ho13; rw [← Ny576.out] at ho13))
            have n0_ := Aside0.mk (Kd.R_elder' zf80_5 (Kd.R_base ho13) hb)
            have n1_ := Aside0.mk (Kd.R_lower (Kd.R_new' ho13 (Kd.R_lt zf80_5)) (below_size zf80_0))
            have n2_ := Aside0.mk (blk_below (g := gb567) (o := .cells #[.int .i64 a0_0, .int .i64 a0_1, .slice A0_2 l0_2.length c0_2] 62 (0, 0)) zf80_1 hb)
            have n3_ := Aside0.mk (blk_below (g := gb568) (o := .cells #[.int .i64 a1_0, .int .i64 a1_1, .int .i64 a1_2] 80 (0, 0)) zf80_2 hb)
            have n4_ := Aside0.mk (blk_below (g := gb569) (o := .cells #[.int .i64 0, .int .i64 0, .slice none 0 0] 62 (0, 0)) zf80_3 hb)
            have n5_ := Aside0.mk (below_step zf80_0 hb)
            clear HO575
            clear BK567
            clear BK568
            clear BK569
            clear HB
            have HO575 := n0_
            have HO578 := n1_
            have BK567 := n2_
            have BK568 := n3_
            have BK569 := n4_
            have HB := n5_
            clear n0_ n1_ n2_ n3_ n4_ n5_
            clear hb ho13
            refine hK.out _ _ ⟨(blk_cell BK568.out 0).trans rfl, (blk_cell BK568.out 1).trans rfl, (blk_cell BK568.out 2).trans rfl, (blk_cell BK567.out 0).trans rfl, (blk_cell BK567.out 1).trans rfl, (blk_cell BK567.out 2).trans rfl⟩ (fun hHeld => ?_)
            clear hK K
            refine norm_ (a' := ?_) ?_ ?_
            rotate_left
            · show Act.put _ (some 18) _ = _
              simp only [Act.put, List.setIfInBounds_toArray, List.set_cons_zero, List.set_cons_succ, i64_w, i32_w]
              rfl
            exact norm_ zf80_11 (hCont (v571, v574, v577) _ ⟨hHeld, (by (with_reducible repeat (first | apply Kd.R_alloc | apply Kd.R_drewN | apply Kd.R_drew)); exact Kd.R_mono HO575.out (fun _ hk => hk.2)), zf80_8, zf80_1, zf80_2, zf80_3, zf80_0⟩)
          · skip
            refine Kd.R_lit_step (Kd.int .i64) _ 3 ?hg (N := 18) ?hd (xs := ([a1_0] : List Int)) (inner := [.int .i64 a1_0]) (ok := fun _ => True) (okp := fun _ => True) ?hr ?hp (fun _ hk => hk) trivial (Below.refl _ _) (Nat.le_refl _) (by simp) ?_; (case hd => rfl); (case hg => rfl); (case hr => first | (go_simp; done) | (go_simp; rfl)); (case hp => exact (Reps.one (show Kd.M (Kd.int .i64) _ _ _ a1_0 [.int .i64 a1_0] from rfl) (Reps.none _ _)))
            intro v577 w11 ho12 hb hg_ hnew_
            clear hg_ hnew_
            (first | rw [← Ny576.out] at ho12 | (simp only [Int.reduceToNat] at ho12; rw [← Ny576.out] at ho12))
            have n0_ := Aside0.mk (Kd.R_elder' zf80_10 (Kd.R_base ho12) hb)
            have n1_ := Aside0.mk (Kd.R_lower (Kd.R_new' ho12 (Kd.R_lt zf80_10)) (below_size zf80_0))
            have n2_ := Aside0.mk (blk_below (g := gb567) (o := .cells #[.int .i64 a0_0, .int .i64 a0_1, .slice A0_2 l0_2.length c0_2] 62 (0, 0)) zf80_1 hb)
            have n3_ := Aside0.mk (blk_below (g := gb568) (o := .cells #[.int .i64 a1_0, .int .i64 a1_1, .int .i64 a1_2] 80 (0, 0)) zf80_2 hb)
            have n4_ := Aside0.mk (blk_below (g := gb569) (o := .cells #[.int .i64 0, .int .i64 0, .slice none 0 0] 62 (0, 0)) zf80_3 hb)
            have n5_ := Aside0.mk (below_step zf80_0 hb)
            clear HO572
            clear BK567
            clear BK568
            clear BK569
            clear HB
            have HO572 := n0_
            have HO578 := n1_
            have BK567 := n2_
            have BK568 := n3_
            have BK569 := n4_
            have HB := n5_
            clear n0_ n1_ n2_ n3_ n4_ n5_
            clear hb ho12
            refine hK.out _ _ ⟨(blk_cell BK568.out 0).trans rfl, (blk_cell BK568.out 1).trans rfl, (blk_cell BK568.out 2).trans rfl, (blk_cell BK567.out 0).trans rfl, (blk_cell BK567.out 1).trans rfl, (blk_cell BK567.out 2).trans rfl⟩ (fun hHeld => ?_)
            clear hK K
            refine norm_ (a' := ?_) ?_ ?_
            rotate_left
            · show Act.put _ (some 18) _ = _
              simp only [Act.put, List.setIfInBounds_toArray, List.set_cons_zero, List.set_cons_succ, i64_w, i32_w]
              rfl
            refine one_ (i := 10) (N := some 15) #[true, true, true, true, true, true, true, true, true, true, true, true, true, true, false, false, false] rfl rfl (one_of HT_.out (by kernel_rfl)) (by decide) (fun K hK => ?_)
            refine Kd.R_append_rows_step (Kd.int .i64) (w0 := w) w.heap.size (by rfl) (.tmp 12) (.tmp 14) 22 3 (.int .i64 0) 8 rfl Try.underlying22 info3 rfl (by decide) (by omega) v571 y570 l0_2 _ _ _ (fun k_ => some k_ ≠ (v577 : Value).ownBlock) (fun _ => False) rfl rfl ?aO ?aR (fun _ _ h => h) (fun _ h => h.elim) ?aF ?aB ?aS ?aL ?_
            (case aR => repeat (first | exact (Kd.C_below HR0_2.out HB.out) | (with_reducible refine Kd.C_alloc ?_ _) | (with_reducible refine Kd.C_drewN ?_ _) | (with_reducible refine Kd.C_drew ?_)))
            (case aB => exact zf80_0)
            (case aF => exact (fun k_ hk => Kd.fresh' (Kd.R_lt zf80_4) k_ hk))
            (case aO => exact zf80_12)
            (case aS => exact (below_size zf80_0))
            (case aL => have := LMc3.out; omega)
            intro v574 w13 ho hb hg hat
            rw [← Ny573.out] at ho
            have n0_ := Aside0.mk (blk_grown (g := gb567) (o := .cells #[.int .i64 a0_0, .int .i64 a0_1, .slice A0_2 l0_2.length c0_2] 62 (0, 0)) zf80_1 hg (Kd.R_ne HO572.out BK567.out (by decide)))
            have n1_ := Aside0.mk (blk_grown (g := gb568) (o := .cells #[.int .i64 a1_0, .int .i64 a1_1, .int .i64 a1_2] 80 (0, 0)) zf80_2 hg (Kd.R_ne HO572.out BK568.out (by decide)))
            have n2_ := Aside0.mk (blk_grown (g := gb569) (o := .cells #[.int .i64 0, .int .i64 0, .slice none 0 0] 62 (0, 0)) zf80_3 hg (Kd.R_ne HO572.out BK569.out (by decide)))
            have n3_ := Aside0.mk (Kd.R_after (ok := (fun _ => True)) zf80_4 hg hat)
            have n4_ := Aside0.mk (hb)
            have n5_ := Aside0.mk (ho)
            clear BK567
            clear BK568
            clear BK569
            clear HO578
            clear HB
            clear HO572
            have BK567 := n0_
            have BK568 := n1_
            have BK569 := n2_
            have HO578 := n3_
            have HB := n4_
            have HO575 := n5_
            clear n0_ n1_ n2_ n3_ n4_ n5_
            clear ho hb hg hat
            refine hK.out _ _ ⟨(blk_cell BK568.out 0).trans rfl, (blk_cell BK568.out 1).trans rfl, (blk_cell BK568.out 2).trans rfl, (blk_cell BK567.out 0).trans rfl, (blk_cell BK567.out 1).trans rfl, (blk_cell BK567.out 2).trans rfl⟩ (fun hHeld => ?_)
            clear hK K
            refine norm_ (a' := ?_) ?_ ?_
            rotate_left
            · show Act.put _ (some 15) _ = _
              simp only [Act.put, List.setIfInBounds_toArray, List.set_cons_zero, List.set_cons_succ, i64_w, i32_w]
              rfl
            exact norm_ zf80_11 (hCont (v571, v574, v577) _ ⟨hHeld, zf80_5, zf80_8, zf80_1, zf80_2, zf80_3, zf80_0⟩)
        · skip
          refine Kd.R_lit_step (Kd.int .i64) _ 3 ?hg (N := 18) ?hd (xs := ([a1_0] : List Int)) (inner := [.int .i64 a1_0]) (ok := fun _ => True) (okp := fun _ => True) ?hr ?hp (fun _ hk => hk) trivial (Below.refl _ _) (Nat.le_refl _) (by simp) ?_; (case hd => rfl); (case hg => rfl); (case hr => first | (go_simp; done) | (go_simp; rfl)); (case hp => exact (Reps.one (show Kd.M (Kd.int .i64) _ _ _ a1_0 [.int .i64 a1_0] from rfl) (Reps.none _ _)))
          intro v577 w9 ho10 hb hg_ hnew_
          clear hg_ hnew_
          (first | rw [← Ny576.out] at ho10 | (simp only [Int.reduceToNat] at ho10; rw [← Ny576.out] at ho10))
          have n0_ := Aside0.mk (Kd.R_lower ho10 (below_size zf80_0))
          have n1_ := Aside0.mk (blk_below (g := gb567) (o := .cells #[.int .i64 a0_0, .int .i64 a0_1, .slice A0_2 l0_2.length c0_2] 62 (0, 0)) zf80_1 hb)
          have n2_ := Aside0.mk (blk_below (g := gb568) (o := .cells #[.int .i64 a1_0, .int .i64 a1_1, .int .i64 a1_2] 80 (0, 0)) zf80_2 hb)
          have n3_ := Aside0.mk (blk_below (g := gb569) (o := .cells #[.int .i64 0, .int .i64 0, .slice none 0 0] 62 (0, 0)) zf80_3 hb)
          have n4_ := Aside0.mk (below_step zf80_0 hb)
          clear BK567
          clear BK568
          clear BK569
          clear HB
          have HO578 := n0_
          have BK567 := n1_
          have BK568 := n2_
          have BK569 := n3_
          have HB := n4_
          clear n0_ n1_ n2_ n3_ n4_
          clear hb ho10
          refine hK.out _ _ ⟨(blk_cell BK568.out 0).trans rfl, (blk_cell BK568.out 1).trans rfl, (blk_cell BK568.out 2).trans rfl, (blk_cell BK567.out 0).trans rfl, (blk_cell BK567.out 1).trans rfl, (blk_cell BK567.out 2).trans rfl⟩ (fun hHeld => ?_)
          clear hK K
          refine norm_ (a' := ?_) ?_ ?_
          rotate_left
          · show Act.put _ (some 18) _ = _
            simp only [Act.put, List.setIfInBounds_toArray, List.set_cons_zero, List.set_cons_succ, i64_w, i32_w]
            rfl
          refine one_ (i := 7) (N := some 12) #[true, true, true, true, true, true, true, true, true, true, false, true, true, true, false, false, false] rfl rfl (one_of HT_.out (by kernel_rfl)) (by decide) (fun K hK => ?_)
          refine Kd.R_lit_step (Kd.int .i64) _ 3 ?hg (N := 12) ?hd (xs := ([] : List Int)) (inner := []) (ok := fun _ => True) (okp := fun _ => True) ?hr ?hp (fun _ hk => hk) trivial (Below.refl _ _) (Nat.le_refl _) (by simp) ?_; (case hd => rfl); (case hg => rfl); (case hr => first | (go_simp; done) | (go_simp; rfl)); (case hp => exact (Reps.none _ _))
          intro v571 w11 ho12 hb hg_ hnew_
          clear hg_ hnew_
          (first | rw [← Ny570.out] at ho12 | (simp only [Int.reduceToNat] at ho12; rw [← Ny570.out] at ho12))
          have n0_ := Aside0.mk (Kd.R_elder' zf80_4 (Kd.R_base ho12) hb)
          have n1_ := Aside0.mk (Kd.R_lower (Kd.R_new' ho12 (Kd.R_lt zf80_4)) (below_size zf80_0))
          have n2_ := Aside0.mk (blk_below (g := gb567) (o := .cells #[.int .i64 a0_0, .int .i64 a0_1, .slice A0_2 l0_2.length c0_2] 62 (0, 0)) zf80_1 hb)
          have n3_ := Aside0.mk (blk_below (g := gb568) (o := .cells #[.int .i64 a1_0, .int .i64 a1_1, .int .i64 a1_2] 80 (0, 0)) zf80_2 hb)
          have n4_ := Aside0.mk (blk_below (g := gb569) (o := .cells #[.int .i64 0, .int .i64 0, .slice none 0 0] 62 (0, 0)) zf80_3 hb)
          have n5_ := Aside0.mk (below_step zf80_0 hb)
          clear HO578
          clear BK567
          clear BK568
          clear BK569
          clear HB
          have HO578 := n0_
          have HO572 := n1_
          have BK567 := n2_
          have BK568 := n3_
          have BK569 := n4_
          have HB := n5_
          clear n0_ n1_ n2_ n3_ n4_ n5_
          clear hb ho12
          refine hK.out _ _ ⟨(blk_cell BK568.out 0).trans rfl, (blk_cell BK568.out 1).trans rfl, (blk_cell BK568.out 2).trans rfl, (blk_cell BK567.out 0).trans rfl, (blk_cell BK567.out 1).trans rfl, (blk_cell BK567.out 2).trans rfl⟩ (fun hHeld => ?_)
          clear hK K
          refine norm_ (a' := ?_) ?_ ?_
          rotate_left
          · show Act.put _ (some 12) _ = _
            simp only [Act.put, List.setIfInBounds_toArray, List.set_cons_zero, List.set_cons_succ, i64_w, i32_w]
            rfl
          refine one_ (i := 10) (N := some 15) #[true, true, true, true, true, true, true, true, true, true, true, true, true, true, false, false, false] rfl rfl (one_of HT_.out (by kernel_rfl)) (by decide) (fun K hK => ?_)
          refine Kd.R_append_rows_step (Kd.int .i64) (w0 := w) w.heap.size (by rfl) (.tmp 12) (.tmp 14) 22 3 (.int .i64 0) 8 rfl Try.underlying22 info3 rfl (by decide) (by omega) v571 y570 l0_2 _ _ _ (fun k_ => some k_ ≠ (v577 : Value).ownBlock) (fun _ => False) rfl rfl ?aO ?aR (fun _ _ h => h) (fun _ h => h.elim) ?aF ?aB ?aS ?aL ?_
          (case aR => repeat (first | exact (Kd.C_below HR0_2.out HB.out) | (with_reducible refine Kd.C_alloc ?_ _) | (with_reducible refine Kd.C_drewN ?_ _) | (with_reducible refine Kd.C_drew ?_)))
          (case aB => exact zf80_0)
          (case aF => exact (fun k_ hk => Kd.fresh' (Kd.R_lt zf80_4) k_ hk))
          (case aO => exact zf80_12)
          (case aS => exact (below_size zf80_0))
          (case aL => have := LMc3.out; omega)
          intro v574 w13 ho hb hg hat
          rw [← Ny573.out] at ho
          have n0_ := Aside0.mk (blk_grown (g := gb567) (o := .cells #[.int .i64 a0_0, .int .i64 a0_1, .slice A0_2 l0_2.length c0_2] 62 (0, 0)) zf80_1 hg (Kd.R_ne HO572.out BK567.out (by decide)))
          have n1_ := Aside0.mk (blk_grown (g := gb568) (o := .cells #[.int .i64 a1_0, .int .i64 a1_1, .int .i64 a1_2] 80 (0, 0)) zf80_2 hg (Kd.R_ne HO572.out BK568.out (by decide)))
          have n2_ := Aside0.mk (blk_grown (g := gb569) (o := .cells #[.int .i64 0, .int .i64 0, .slice none 0 0] 62 (0, 0)) zf80_3 hg (Kd.R_ne HO572.out BK569.out (by decide)))
          have n3_ := Aside0.mk (Kd.R_after (ok := (fun _ => True)) zf80_4 hg hat)
          have n4_ := Aside0.mk (hb)
          have n5_ := Aside0.mk (ho)
          clear BK567
          clear BK568
          clear BK569
          clear HO578
          clear HB
          clear HO572
          have BK567 := n0_
          have BK568 := n1_
          have BK569 := n2_
          have HO578 := n3_
          have HB := n4_
          have HO575 := n5_
          clear n0_ n1_ n2_ n3_ n4_ n5_
          clear ho hb hg hat
          refine hK.out _ _ ⟨(blk_cell BK568.out 0).trans rfl, (blk_cell BK568.out 1).trans rfl, (blk_cell BK568.out 2).trans rfl, (blk_cell BK567.out 0).trans rfl, (blk_cell BK567.out 1).trans rfl, (blk_cell BK567.out 2).trans rfl⟩ (fun hHeld => ?_)
          clear hK K
          refine norm_ (a' := ?_) ?_ ?_
          rotate_left
          · show Act.put _ (some 15) _ = _
            simp only [Act.put, List.setIfInBounds_toArray, List.set_cons_zero, List.set_cons_succ, i64_w, i32_w]
            rfl
          exact norm_ zf80_11 (hCont (v571, v574, v577) _ ⟨hHeld, zf80_5, zf80_8, zf80_1, zf80_2, zf80_3, zf80_0⟩)
      rintro ⟨v571, v574, v577⟩ w14 ⟨hS_, h0_, h1_, h2_, h3_, h4_, h5_⟩
      have n0_ : Aside0 (Kd.R (Kd.int .i64) 3 w14 w.heap.size (fun k_ => some k_ ≠ (v577 : Value).ownBlock) v574 y573) := ⟨h0_⟩
      have n1_ : Aside0 (Kd.R (Kd.int .i64) 3 w14 w.heap.size (fun k_ => some k_ ≠ (v574 : Value).ownBlock) v577 y576) := ⟨h1_⟩
      have n2_ : Aside0 (w14.heap[gb567]? = some (.cells #[.int .i64 a0_0, .int .i64 a0_1, .slice A0_2 l0_2.length c0_2] 62 (0, 0))) := ⟨h2_⟩
      have n3_ : Aside0 (w14.heap[gb568]? = some (.cells #[.int .i64 a1_0, .int .i64 a1_1, .int .i64 a1_2] 80 (0, 0))) := ⟨h3_⟩
      have n4_ : Aside0 (w14.heap[gb569]? = some (.cells #[.int .i64 0, .int .i64 0, .slice none 0 0] 62 (0, 0))) := ⟨h4_⟩
      have n5_ : Aside0 (Below w.heap.size w w14) := ⟨h5_⟩
      clear BK567
      clear BK568
      clear BK569
      clear HB
      clear h0_ h1_ h2_ h3_ h4_ h5_
      have HO575 := n0_
      have HO578 := n1_
      have BK567 := n2_
      have BK568 := n3_
      have BK569 := n4_
      have HB := n5_
      clear n0_ n1_ n2_ n3_ n4_ n5_
      have hHeld : w14.cell? ⟨gb568, 0, none⟩ = some (.int .i64 a1_0) ∧ w14.cell? ⟨gb568, 1, none⟩ = some (.int .i64 a1_1) ∧ w14.cell? ⟨gb568, 2, none⟩ = some (.int .i64 a1_2) ∧ w14.cell? ⟨gb567, 0, none⟩ = some (.int .i64 a0_0) ∧ w14.cell? ⟨gb567, 1, none⟩ = some (.int .i64 a0_1) ∧ w14.cell? ⟨gb567, 2, none⟩ = some (.slice A0_2 l0_2.length c0_2) := hS_
      obtain ⟨Ao16, co16, eo16⟩ := Kd.R_slice HO578.out
      (first | subst eo16 | (injection eo16 with f1_ f2_ f3_; have f4_ := f1_.symm; have f5_ := f3_.symm; clear f1_ f2_ f3_; subst f4_; subst f5_))
      refine norm_ (a' := ?_) ?_ ?_
      rotate_left
      · simp only [putAll, Act.put, List.setIfInBounds_toArray, List.set_cons_zero, List.set_cons_succ]
        rfl
      refine one_ (i := 14) (N := some 19) #[true, true, true, true, true, true, true, true, true, true, true, true, true, true, true, false, false] rfl rfl (one_of HT_.out (by kernel_rfl)) (by decide) (fun K hK => ?_)
      refine Kd.R_append_rows_step (Kd.int .i64) (w0 := w) w.heap.size (by rfl) (.tmp 15) (.tmp 18) 22 3 (.int .i64 0) 8 rfl Try.underlying22 info3 rfl (by decide) (by omega) v574 y573 y576 _ _ _ (fun k_ => some k_ ≠ (.slice Ao16 y576.length co16 : Value).ownBlock) (fun _ => False) rfl rfl ?aO ?aR (fun _ _ h => h) (fun _ h => h.elim) ?aF ?aB ?aS ?aL ?_
      (case aR => repeat (first | exact (Kd.R_reads' HO578.out).2.2 | (with_reducible refine Kd.C_alloc ?_ _) | (with_reducible refine Kd.C_drewN ?_ _) | (with_reducible refine Kd.C_drew ?_)))
      (case aB => exact zf80_0)
      (case aF => exact (fun k_ hk => Kd.fresh' (Kd.R_lt zf80_4) k_ hk))
      (case aO => exact zf80_5)
      (case aS => exact (below_size zf80_0))
      (case aL => have := LMc4.out; omega)
      intro v580 w15 ho hb hg hat
      rw [← Ny579.out] at ho
      have n0_ := Aside0.mk (blk_grown (g := gb567) (o := .cells #[.int .i64 a0_0, .int .i64 a0_1, .slice A0_2 l0_2.length c0_2] 62 (0, 0)) zf80_1 hg (Kd.R_ne HO575.out BK567.out (by decide)))
      have n1_ := Aside0.mk (blk_grown (g := gb568) (o := .cells #[.int .i64 a1_0, .int .i64 a1_1, .int .i64 a1_2] 80 (0, 0)) zf80_2 hg (Kd.R_ne HO575.out BK568.out (by decide)))
      have n2_ := Aside0.mk (blk_grown (g := gb569) (o := .cells #[.int .i64 0, .int .i64 0, .slice none 0 0] 62 (0, 0)) zf80_3 hg (Kd.R_ne HO575.out BK569.out (by decide)))
      have n3_ := Aside0.mk (Kd.R_after (ok := (fun _ => True)) (by (with_reducible repeat (first | apply Kd.R_alloc | apply Kd.R_drewN | apply Kd.R_drew)); exact Kd.R_mono HO578.out (fun _ hk => ⟨trivial, hk⟩)) hg hat)
      have n4_ := Aside0.mk (hb)
      have n5_ := Aside0.mk (ho)
      clear BK567
      clear BK568
      clear BK569
      clear HO578
      clear HB
      clear HO575
      have BK567 := n0_
      have BK568 := n1_
      have BK569 := n2_
      have HO578 := n3_
      have HB := n4_
      have HO581 := n5_
      clear n0_ n1_ n2_ n3_ n4_ n5_
      clear ho hb hg hat
      obtain ⟨Ao17, co17, eo17⟩ := Kd.R_slice HO581.out
      (first | subst eo17 | (injection eo17 with f1_ f2_ f3_; have f4_ := f1_.symm; have f5_ := f3_.symm; clear f1_ f2_ f3_; subst f4_; subst f5_))
      refine hK.out _ _ ⟨(blk_cell BK568.out 0).trans rfl, (blk_cell BK568.out 1).trans rfl, (blk_cell BK568.out 2).trans rfl, (blk_cell BK567.out 0).trans rfl, (blk_cell BK567.out 1).trans rfl, (blk_cell BK567.out 2).trans rfl⟩ (fun hHeld => ?_)
      clear hK K
      refine norm_ (a' := ?_) ?_ ?_
      rotate_left
      · show Act.put _ (some 19) _ = _
        simp only [Act.put, List.setIfInBounds_toArray, List.set_cons_zero, List.set_cons_succ, i64_w, i32_w]
        rfl
      refine pS 15 20 ?_
      refine one_ (i := 16) (N := none) #[true, true, true, true, true, true, true, true, true, true, true, true, true, true, true, true, true] rfl rfl (one_of HT_.out (by kernel_rfl)) (by decide) (fun K hK => ?_)
      have hs18 : w15.cell? ⟨gb569, 0, none⟩ = some (.int .i64 0) := (blk_cell BK569.out 0).trans rfl
      have hfs18 := blk_frozen BK569.out 0
      have hns18_0 := NB567_569.out
      have hns18_1 := NB568_569.out
      have hms18_0 := NB569_567.out
      have hms18_1 := NB569_568.out
      have hs19 : w15.cell? ⟨gb569, 1, none⟩ = some (.int .i64 0) := (blk_cell BK569.out 1).trans rfl
      have hfs19 := blk_frozen BK569.out 1
      have hns19_0 := NB567_569.out
      have hns19_1 := NB568_569.out
      have hms19_0 := NB569_567.out
      have hms19_1 := NB569_568.out
      have hs20 : w15.cell? ⟨gb569, 2, none⟩ = some (.slice none 0 0) := (blk_cell BK569.out 2).trans rfl
      have hfs20 := blk_frozen BK569.out 2
      have hns20_0 := NB567_569.out
      have hns20_1 := NB568_569.out
      have hms20_0 := NB569_567.out
      have hms20_1 := NB569_568.out
      refine skip_ (w1 := ?_) (by rfl) rfl ?_ ?_
      rotate_left
      · go_simp
        rfl
      refine hK.out _ _ ⟨((cell_far (p := ⟨gb569, _, none⟩) NB568_569.out _).trans (((cell_far (p := ⟨gb569, _, none⟩) NB568_569.out _).trans (((cell_far (p := ⟨gb569, _, none⟩) NB568_569.out _).trans (hHeld.1)))))), ((cell_far (p := ⟨gb569, _, none⟩) NB568_569.out _).trans (((cell_far (p := ⟨gb569, _, none⟩) NB568_569.out _).trans (((cell_far (p := ⟨gb569, _, none⟩) NB568_569.out _).trans (hHeld.2.1)))))), ((cell_far (p := ⟨gb569, _, none⟩) NB568_569.out _).trans (((cell_far (p := ⟨gb569, _, none⟩) NB568_569.out _).trans (((cell_far (p := ⟨gb569, _, none⟩) NB568_569.out _).trans (hHeld.2.2.1)))))), ((cell_far (p := ⟨gb569, _, none⟩) NB567_569.out _).trans (((cell_far (p := ⟨gb569, _, none⟩) NB567_569.out _).trans (((cell_far (p := ⟨gb569, _, none⟩) NB567_569.out _).trans (hHeld.2.2.2.1)))))), ((cell_far (p := ⟨gb569, _, none⟩) NB567_569.out _).trans (((cell_far (p := ⟨gb569, _, none⟩) NB567_569.out _).trans (((cell_far (p := ⟨gb569, _, none⟩) NB567_569.out _).trans (hHeld.2.2.2.2.1)))))), ((cell_far (p := ⟨gb569, _, none⟩) NB567_569.out _).trans (((cell_far (p := ⟨gb569, _, none⟩) NB567_569.out _).trans (((cell_far (p := ⟨gb569, _, none⟩) NB567_569.out _).trans (hHeld.2.2.2.2.2))))))⟩ (fun hHeld => ?_)
      clear hK K
      refine done_ (done_of HT_.out (by kernel_rfl)) ?_
      try go_wp2
      refine bodyPost_ret (results_cell_row rfl _ _ gb569 62 #[.int .i64 a1_2, .int .i64 (wrap64 (a0_1 + a1_1)), .slice Ao17 y579.length co17] (0, 0) _ rfl (by (with_reducible repeat (first | refine blk_drewN ?_ _ | refine blk_drew ?_ | refine blk_alloc ?_ _)); refine blk_put (cs := #[.int .i64 a1_2, .int .i64 (wrap64 (a0_1 + a1_1)), .slice none 0 0]) ?_ 2 _ rfl; (with_reducible repeat (first | refine blk_drewN ?_ _ | refine blk_drew ?_ | refine blk_alloc ?_ _)); refine blk_put (cs := #[.int .i64 a1_2, .int .i64 0, .slice none 0 0]) ?_ 1 _ rfl; (with_reducible repeat (first | refine blk_drewN ?_ _ | refine blk_drew ?_ | refine blk_alloc ?_ _)); refine blk_put (cs := #[.int .i64 0, .int .i64 0, .slice none 0 0]) ?_ 0 _ rfl; (with_reducible repeat (first | refine blk_drewN ?_ _ | refine blk_drew ?_ | refine blk_alloc ?_ _)); exact BK569.out) Try.underlying62 rfl (by kernel_rfl)) rfl ?_
      exact ⟨_, by first | rfl | (simp [errW_none, errW_some] <;> rfl) | (simp [*, errW_none, errW_some] <;> rfl), by (with_reducible repeat (first | apply Kd.R_alloc | apply Kd.R_drewN | apply Kd.R_drew)); exact Kd.R_mono (Kd.R_far (p := ⟨gb569, 2, none⟩) (Kd.R_far (p := ⟨gb569, 1, none⟩) (Kd.R_far (p := ⟨gb569, 0, none⟩) (Kd.R_types HO581.out BK569.out (by decide)) (fun _ hk => hk.2) (.int .i64 a1_2)) (fun _ hk => hk.2) (.int .i64 (wrap64 (a0_1 + a1_1)))) (fun _ hk => hk.2) (.slice Ao17 y579.length co17)) (fun _ hk => trivial), by repeat (first | (with_reducible first | exact HB.out | apply below_alloc | apply pw_below_drewN | apply below_drew1 | refine below_set ?_ GE567.out | refine below_set ?_ GE568.out | refine below_set ?_ GE569.out) | exact HB.out)⟩
    · rw [if_neg c4] at H
      exact absurd H (by simp)
  · rw [if_neg c3] at H
    exact absurd H (by simp)

end Go.Proofs.Ytnldmnlfocigaaa.F

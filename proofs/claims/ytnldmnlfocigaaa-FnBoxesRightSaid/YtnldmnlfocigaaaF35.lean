-- PRINTED by print.py (a twelfth state) out of the translation. Not trusted: Lean checks it.
import Derived.Test.YtnldmnlfocigaaaF
import Derived.Test.YtnldmnlfocigaaaF69
namespace Go.Proofs.Ytnldmnlfocigaaa.F
open Go.Proofs.Ytnldmnlfocigaaa.Opn
open Go.RowKit Go.Proofs.YtnldmnlfocigaaaW.PrintWords Go.Proofs.YtnldmnlfocigaaaW.PrintLast
set_option linter.unusedVariables false
set_option linter.unusedSimpArgs false

theorem zf35_3 {p : Prop} (h : p := by repeat (first | (with_reducible first | exact HB.out | apply below_alloc | apply pw_below_drewN | apply below_drew1 | refine below_set ?_ GE490.out) | exact HB.out)) : p := h
theorem zf35_2 {p : Prop} (h : p := by first | (with_reducible assumption) | assumption) : p := h
theorem zf35_1 {p : Prop} (h : p := by (with_reducible repeat (first | apply Kd.R_alloc | apply Kd.R_drewN | apply Kd.R_drew)); exact HO_3.out) : p := h
theorem zf35_0 {p : Prop} (h : p := by repeat (first | (with_reducible first | exact HB.out | apply below_alloc | apply pw_below_drewN | apply below_drew1) | exact HB.out)) : p := h
/-! ### impl_PiecesOk: function 35 -/
def impl_PiecesOk.l0 : Nat → List (S80) → List Int → List (S80) → Int → Int → Option (Bool)
  | 0, _, _, _, _, _ => none
  | k + 1, x0, x3, x6, x7, x8 => if x8 < x7 then (if 0 ≤ x8 then (if x8 < (x6.length : Int) then (if ((rd_T80 x6 x8).f0) < 1 then (some false) else (if ((rd_T80 x6 x8).f1) < 1 then (some false) else (if ((rd_T80 x6 x8).f1) > 60 then (some false) else (if ((rd_T80 x6 x8).f2) < 0 then (some false) else (if ((rd_T80 x6 x8).f2) > 5 then (some false) else (if x3.length < 17592186044416 then (impl_PiecesOk.l0 k x0 (x3 ++ [(rd_T80 x6 x8).f0]) x6 x7 (wrap64 (x8 + 1))) else (none))))))) else (none)) else (none)) else (if (x0.length : Int) ≤ 40 then ((impl_areDifferent.f x3).bind fun t494 => (some t494)) else (some false))
def impl_PiecesOk.f (k : Nat) (l0 : List (S80)) : Option (Bool) := impl_PiecesOk.l0 k l0 ([] : List Int) l0 (l0.length : Int) 0
theorem impl_PiecesOk.mono_l : ∀ k, (∀ y0 y1 y2 y3 y4, LeO (impl_PiecesOk.l0 k y0 y1 y2 y3 y4) (impl_PiecesOk.l0 (k + 1) y0 y1 y2 y3 y4))
  | 0 => fun _ _ _ _ _ r h => by simp [impl_PiecesOk.l0] at h
  | k + 1 => by
    have ih0 := impl_PiecesOk.mono_l k
    · intro y0 y1 y2 y3 y4
      unfold impl_PiecesOk.l0
      repeat' first
      | (with_reducible exact ih0 _ _ _ _ _)
      | (with_reducible exact LeO.refl _)
      | (with_reducible exact LeO.none _)
      | (with_reducible refine LeO.ite ?_ ?_)
      | (with_reducible refine LeO.bind ?_ (fun _ => ?_))
      | exact ih0 _ _ _ _ _
      | exact LeO.none _
      | refine LeO.ite ?_ ?_
      | refine LeO.bind ?_ (fun _ => ?_)
theorem impl_PiecesOk.mono : ∀ a0 k, LeO (impl_PiecesOk.f k a0) (impl_PiecesOk.f (k + 1) a0) := by
  intro a0 k
  have ih0 := impl_PiecesOk.mono_l k
  unfold impl_PiecesOk.f
  repeat' first
      | (with_reducible exact ih0 _ _ _ _ _)
      | (with_reducible exact LeO.refl _)
      | (with_reducible exact LeO.none _)
      | (with_reducible refine LeO.ite ?_ ?_)
      | (with_reducible refine LeO.bind ?_ (fun _ => ?_))
      | exact ih0 _ _ _ _ _
      | exact LeO.none _
      | refine LeO.ite ?_ ?_
      | refine LeO.bind ?_ (fun _ => ?_)
set_option maxHeartbeats 8000000 in
set_option maxRecDepth 100000 in
theorem impl_PiecesOk.calls (k : Nat) (A0 : Option Addr) (c0 : Nat) (l0 : List (S80)) (r : Bool) (w : World) (hr0 : Kd.C k80 w A0 l0.length l0) (hc0 : l0.length ≤ c0) (h : impl_PiecesOk.f k l0 = some r) :
    Calls Try.prog 35 #[.slice A0 l0.length c0] w fun e w' => e = .returned (.bool r) ∧ Below w.heap.size w w' := by
  have hu80 := Try.underlying80
  have HR0 := Aside0.mk hr0
  have HC0 := Aside0.mk hc0
  clear hr0 hc0
  have HB := Aside0.mk (Below.refl w.heap.size w)
  have H : (impl_PiecesOk.l0 k l0 ([] : List Int) l0 (l0.length : Int) 0) = some r := h
  clear h
  have H' := Aside0.mk H
  clear H
  go_enter Try.func35, Try.ntmps35
  go_wp2
  go_loopg [3, 8] k (fun kq v3 v8 w' => ∃ (x3_1 : List Int) (x8_1 : Int), v8 = .int .i64 x8_1 ∧ Aside0 (impl_PiecesOk.l0 kq l0 x3_1 l0 (l0.length : Int) x8_1 = some r) ∧ Aside0 (kq ≤ k) ∧ Aside0 (Kd.R (Kd.int .i64) 3 w' w.heap.size (fun _ => True) v3 x3_1) ∧ Aside0 (Below w.heap.size w w'))
  case atStart => exact ⟨(([] : List Int)), (0), (by first | rfl | (simp; done) | (simp [*]; done)), H', ⟨Nat.le_refl _⟩, ⟨by first | exact Kd.R_nil _ _ _ _ _ | exact Kd.N_nil _ _ _ _ _ | exact Kd.V_nil _ _ _ _ _ | exact Kd.Q_nil _ _ _ _ _ | exact Kd.S_nil _ _ _ _ _⟩, ⟨by repeat (first | (with_reducible first | exact HB.out | apply below_alloc | apply pw_below_drewN | apply below_drew1) | exact HB.out)⟩⟩
  case round =>
    clear H'
    obtain ⟨x3_1, x8_1, rfl, HA, HK1, HO_3, HB⟩ := hrel
    cases gk with
    | zero => exact absurd HA.out (by simp [impl_PiecesOk.l0])
    | succ k1 =>
      have H := HA.out
      clear HA
      simp only [impl_PiecesOk.l0] at H
      by_cases c2 : x8_1 < (l0.length : Int)
      · rw [if_pos c2] at H
        have c2b0 : decide (x8_1 < (l0.length : Int)) = true := decide_eq_true c2
        clear c2
        by_cases c3 : 0 ≤ x8_1
        · rw [if_pos c3] at H
          have c3b0 : decide (0 ≤ x8_1) = true := decide_eq_true c3
          clear c3
          by_cases c4 : x8_1 < (l0.length : Int)
          · rw [if_pos c4] at H
            have c4b0 : decide (x8_1 < (l0.length : Int)) = true := decide_eq_true c4
            clear c4
            by_cases c5 : ((rd_T80 l0 x8_1).f0) < 1
            · rw [if_pos c5] at H
              have c5b0 : decide (((rd_T80 l0 x8_1).f0) < 1) = true := decide_eq_true c5
              clear c5
              obtain rfl := Option.some.inj H
              have p489 : 0 ≤ (x8_1 : Int) := of_decide_eq_true zf35_2
              have q489 : x8_1 < (l0.length : Int) := of_decide_eq_true zf35_2
              obtain ⟨ad489, e489, hx489_0, hx489_1, hx489_2⟩ := at_T80 HR0.out x8_1 p489 q489
              cases e489
              replace hx489_0 := (HB.out.cell (World.block_lt_of_cell? w _ hx489_0)).trans hx489_0
              replace hx489_1 := (HB.out.cell (World.block_lt_of_cell? w _ hx489_1)).trans hx489_1
              replace hx489_2 := (HB.out.cell (World.block_lt_of_cell? w _ hx489_2)).trans hx489_2
              replace p489 := eq_true p489
              replace q489 := eq_true q489
              go_wp2_with (first | ((with_reducible refine gate_dst (N := 5) rfl ?_); refine box_event ?hg (N := 5) ?hd (cs := #[.int .i64 0, .int .i64 0, .int .i64 0]) (t := 80) ?hr ?_; (case hd => rfl); (case hg => rfl); (case hr => first | (go_simp; done) | (go_simp; rfl)); intro gb490 hg w6 hbox hb; have n0_ := Aside0.mk (Kd.R_below zf35_1 hb); have n1_ := Aside0.mk (below_step zf35_0 hb); have n2_ := Aside0.mk (hbox); have n3_ := Aside0.mk ((by rw [hg]; exact (below_size zf35_0) : w.heap.size ≤ gb490)); have n4_ := Aside0.mk ((by rw [hg]; exact (below_size zf35_0) : w.heap.size ≤ gb490)); clear HO_3; clear HB; have HO_3 := n0_; have HB := n1_; have BK490 := n2_; have GW490 := n3_; have GE490 := n4_; clear n0_ n1_ n2_ n3_ n4_; clear hb hbox hg; have hcz7_0 : w6.cell? ⟨gb490, 0, none⟩ = some (.int .i64 0) := (blk_cell BK490.out 0).trans rfl; have hcz7_1 : w6.cell? ⟨gb490, 1, none⟩ = some (.int .i64 0) := (blk_cell BK490.out 1).trans rfl; have hcz7_2 : w6.cell? ⟨gb490, 2, none⟩ = some (.int .i64 0) := (blk_cell BK490.out 2).trans rfl; have hfz7_0 := blk_frozen BK490.out 0; have hfz7_1 := blk_frozen BK490.out 1; have hfz7_2 := blk_frozen BK490.out 2))
              go_ret
              exact ⟨by first | rfl | (simp [errW_none, errW_some] <;> rfl) | (simp [*, errW_none, errW_some] <;> rfl), by repeat (first | (with_reducible first | exact HB.out | apply below_alloc | apply pw_below_drewN | apply below_drew1 | refine below_set ?_ GE490.out) | exact HB.out)⟩
            · rw [if_neg c5] at H
              have c5b0 : decide (((rd_T80 l0 x8_1).f0) < 1) = false := decide_eq_false c5
              clear c5
              by_cases c8 : ((rd_T80 l0 x8_1).f1) < 1
              · rw [if_pos c8] at H
                have c8b0 : decide (((rd_T80 l0 x8_1).f1) < 1) = true := decide_eq_true c8
                clear c8
                obtain rfl := Option.some.inj H
                have p489 : 0 ≤ (x8_1 : Int) := of_decide_eq_true zf35_2
                have q489 : x8_1 < (l0.length : Int) := of_decide_eq_true zf35_2
                obtain ⟨ad489, e489, hx489_0, hx489_1, hx489_2⟩ := at_T80 HR0.out x8_1 p489 q489
                cases e489
                replace hx489_0 := (HB.out.cell (World.block_lt_of_cell? w _ hx489_0)).trans hx489_0
                replace hx489_1 := (HB.out.cell (World.block_lt_of_cell? w _ hx489_1)).trans hx489_1
                replace hx489_2 := (HB.out.cell (World.block_lt_of_cell? w _ hx489_2)).trans hx489_2
                replace p489 := eq_true p489
                replace q489 := eq_true q489
                go_wp2_with (first | ((with_reducible refine gate_dst (N := 5) rfl ?_); refine box_event ?hg (N := 5) ?hd (cs := #[.int .i64 0, .int .i64 0, .int .i64 0]) (t := 80) ?hr ?_; (case hd => rfl); (case hg => rfl); (case hr => first | (go_simp; done) | (go_simp; rfl)); intro gb490 hg w9 hbox hb; have n0_ := Aside0.mk (Kd.R_below zf35_1 hb); have n1_ := Aside0.mk (below_step zf35_0 hb); have n2_ := Aside0.mk (hbox); have n3_ := Aside0.mk ((by rw [hg]; exact (below_size zf35_0) : w.heap.size ≤ gb490)); have n4_ := Aside0.mk ((by rw [hg]; exact (below_size zf35_0) : w.heap.size ≤ gb490)); clear HO_3; clear HB; have HO_3 := n0_; have HB := n1_; have BK490 := n2_; have GW490 := n3_; have GE490 := n4_; clear n0_ n1_ n2_ n3_ n4_; clear hb hbox hg; have hcz10_0 : w9.cell? ⟨gb490, 0, none⟩ = some (.int .i64 0) := (blk_cell BK490.out 0).trans rfl; have hcz10_1 : w9.cell? ⟨gb490, 1, none⟩ = some (.int .i64 0) := (blk_cell BK490.out 1).trans rfl; have hcz10_2 : w9.cell? ⟨gb490, 2, none⟩ = some (.int .i64 0) := (blk_cell BK490.out 2).trans rfl; have hfz10_0 := blk_frozen BK490.out 0; have hfz10_1 := blk_frozen BK490.out 1; have hfz10_2 := blk_frozen BK490.out 2))
                go_ret
                exact ⟨by first | rfl | (simp [errW_none, errW_some] <;> rfl) | (simp [*, errW_none, errW_some] <;> rfl), by repeat (first | (with_reducible first | exact HB.out | apply below_alloc | apply pw_below_drewN | apply below_drew1 | refine below_set ?_ GE490.out) | exact HB.out)⟩
              · rw [if_neg c8] at H
                have c8b0 : decide (((rd_T80 l0 x8_1).f1) < 1) = false := decide_eq_false c8
                clear c8
                by_cases c11 : ((rd_T80 l0 x8_1).f1) > 60
                · rw [if_pos c11] at H
                  have c11b0 : decide (60 < ((rd_T80 l0 x8_1).f1)) = true := decide_eq_true c11
                  clear c11
                  obtain rfl := Option.some.inj H
                  have p489 : 0 ≤ (x8_1 : Int) := of_decide_eq_true zf35_2
                  have q489 : x8_1 < (l0.length : Int) := of_decide_eq_true zf35_2
                  obtain ⟨ad489, e489, hx489_0, hx489_1, hx489_2⟩ := at_T80 HR0.out x8_1 p489 q489
                  cases e489
                  replace hx489_0 := (HB.out.cell (World.block_lt_of_cell? w _ hx489_0)).trans hx489_0
                  replace hx489_1 := (HB.out.cell (World.block_lt_of_cell? w _ hx489_1)).trans hx489_1
                  replace hx489_2 := (HB.out.cell (World.block_lt_of_cell? w _ hx489_2)).trans hx489_2
                  replace p489 := eq_true p489
                  replace q489 := eq_true q489
                  go_wp2_with (first | ((with_reducible refine gate_dst (N := 5) rfl ?_); refine box_event ?hg (N := 5) ?hd (cs := #[.int .i64 0, .int .i64 0, .int .i64 0]) (t := 80) ?hr ?_; (case hd => rfl); (case hg => rfl); (case hr => first | (go_simp; done) | (go_simp; rfl)); intro gb490 hg w12 hbox hb; have n0_ := Aside0.mk (Kd.R_below zf35_1 hb); have n1_ := Aside0.mk (below_step zf35_0 hb); have n2_ := Aside0.mk (hbox); have n3_ := Aside0.mk ((by rw [hg]; exact (below_size zf35_0) : w.heap.size ≤ gb490)); have n4_ := Aside0.mk ((by rw [hg]; exact (below_size zf35_0) : w.heap.size ≤ gb490)); clear HO_3; clear HB; have HO_3 := n0_; have HB := n1_; have BK490 := n2_; have GW490 := n3_; have GE490 := n4_; clear n0_ n1_ n2_ n3_ n4_; clear hb hbox hg; have hcz13_0 : w12.cell? ⟨gb490, 0, none⟩ = some (.int .i64 0) := (blk_cell BK490.out 0).trans rfl; have hcz13_1 : w12.cell? ⟨gb490, 1, none⟩ = some (.int .i64 0) := (blk_cell BK490.out 1).trans rfl; have hcz13_2 : w12.cell? ⟨gb490, 2, none⟩ = some (.int .i64 0) := (blk_cell BK490.out 2).trans rfl; have hfz13_0 := blk_frozen BK490.out 0; have hfz13_1 := blk_frozen BK490.out 1; have hfz13_2 := blk_frozen BK490.out 2))
                  go_ret
                  exact ⟨by first | rfl | (simp [errW_none, errW_some] <;> rfl) | (simp [*, errW_none, errW_some] <;> rfl), by repeat (first | (with_reducible first | exact HB.out | apply below_alloc | apply pw_below_drewN | apply below_drew1 | refine below_set ?_ GE490.out) | exact HB.out)⟩
                · rw [if_neg c11] at H
                  have c11b0 : decide (60 < ((rd_T80 l0 x8_1).f1)) = false := decide_eq_false c11
                  clear c11
                  by_cases c14 : ((rd_T80 l0 x8_1).f2) < 0
                  · rw [if_pos c14] at H
                    have c14b0 : decide (((rd_T80 l0 x8_1).f2) < 0) = true := decide_eq_true c14
                    clear c14
                    obtain rfl := Option.some.inj H
                    have p489 : 0 ≤ (x8_1 : Int) := of_decide_eq_true zf35_2
                    have q489 : x8_1 < (l0.length : Int) := of_decide_eq_true zf35_2
                    obtain ⟨ad489, e489, hx489_0, hx489_1, hx489_2⟩ := at_T80 HR0.out x8_1 p489 q489
                    cases e489
                    replace hx489_0 := (HB.out.cell (World.block_lt_of_cell? w _ hx489_0)).trans hx489_0
                    replace hx489_1 := (HB.out.cell (World.block_lt_of_cell? w _ hx489_1)).trans hx489_1
                    replace hx489_2 := (HB.out.cell (World.block_lt_of_cell? w _ hx489_2)).trans hx489_2
                    replace p489 := eq_true p489
                    replace q489 := eq_true q489
                    go_wp2_with (first | ((with_reducible refine gate_dst (N := 5) rfl ?_); refine box_event ?hg (N := 5) ?hd (cs := #[.int .i64 0, .int .i64 0, .int .i64 0]) (t := 80) ?hr ?_; (case hd => rfl); (case hg => rfl); (case hr => first | (go_simp; done) | (go_simp; rfl)); intro gb490 hg w15 hbox hb; have n0_ := Aside0.mk (Kd.R_below zf35_1 hb); have n1_ := Aside0.mk (below_step zf35_0 hb); have n2_ := Aside0.mk (hbox); have n3_ := Aside0.mk ((by rw [hg]; exact (below_size zf35_0) : w.heap.size ≤ gb490)); have n4_ := Aside0.mk ((by rw [hg]; exact (below_size zf35_0) : w.heap.size ≤ gb490)); clear HO_3; clear HB; have HO_3 := n0_; have HB := n1_; have BK490 := n2_; have GW490 := n3_; have GE490 := n4_; clear n0_ n1_ n2_ n3_ n4_; clear hb hbox hg; have hcz16_0 : w15.cell? ⟨gb490, 0, none⟩ = some (.int .i64 0) := (blk_cell BK490.out 0).trans rfl; have hcz16_1 : w15.cell? ⟨gb490, 1, none⟩ = some (.int .i64 0) := (blk_cell BK490.out 1).trans rfl; have hcz16_2 : w15.cell? ⟨gb490, 2, none⟩ = some (.int .i64 0) := (blk_cell BK490.out 2).trans rfl; have hfz16_0 := blk_frozen BK490.out 0; have hfz16_1 := blk_frozen BK490.out 1; have hfz16_2 := blk_frozen BK490.out 2))
                    go_ret
                    exact ⟨by first | rfl | (simp [errW_none, errW_some] <;> rfl) | (simp [*, errW_none, errW_some] <;> rfl), by repeat (first | (with_reducible first | exact HB.out | apply below_alloc | apply pw_below_drewN | apply below_drew1 | refine below_set ?_ GE490.out) | exact HB.out)⟩
                  · rw [if_neg c14] at H
                    have c14b0 : decide (((rd_T80 l0 x8_1).f2) < 0) = false := decide_eq_false c14
                    clear c14
                    by_cases c17 : ((rd_T80 l0 x8_1).f2) > 5
                    · rw [if_pos c17] at H
                      have c17b0 : decide (5 < ((rd_T80 l0 x8_1).f2)) = true := decide_eq_true c17
                      clear c17
                      obtain rfl := Option.some.inj H
                      have p489 : 0 ≤ (x8_1 : Int) := of_decide_eq_true zf35_2
                      have q489 : x8_1 < (l0.length : Int) := of_decide_eq_true zf35_2
                      obtain ⟨ad489, e489, hx489_0, hx489_1, hx489_2⟩ := at_T80 HR0.out x8_1 p489 q489
                      cases e489
                      replace hx489_0 := (HB.out.cell (World.block_lt_of_cell? w _ hx489_0)).trans hx489_0
                      replace hx489_1 := (HB.out.cell (World.block_lt_of_cell? w _ hx489_1)).trans hx489_1
                      replace hx489_2 := (HB.out.cell (World.block_lt_of_cell? w _ hx489_2)).trans hx489_2
                      replace p489 := eq_true p489
                      replace q489 := eq_true q489
                      go_wp2_with (first | ((with_reducible refine gate_dst (N := 5) rfl ?_); refine box_event ?hg (N := 5) ?hd (cs := #[.int .i64 0, .int .i64 0, .int .i64 0]) (t := 80) ?hr ?_; (case hd => rfl); (case hg => rfl); (case hr => first | (go_simp; done) | (go_simp; rfl)); intro gb490 hg w18 hbox hb; have n0_ := Aside0.mk (Kd.R_below zf35_1 hb); have n1_ := Aside0.mk (below_step zf35_0 hb); have n2_ := Aside0.mk (hbox); have n3_ := Aside0.mk ((by rw [hg]; exact (below_size zf35_0) : w.heap.size ≤ gb490)); have n4_ := Aside0.mk ((by rw [hg]; exact (below_size zf35_0) : w.heap.size ≤ gb490)); clear HO_3; clear HB; have HO_3 := n0_; have HB := n1_; have BK490 := n2_; have GW490 := n3_; have GE490 := n4_; clear n0_ n1_ n2_ n3_ n4_; clear hb hbox hg; have hcz19_0 : w18.cell? ⟨gb490, 0, none⟩ = some (.int .i64 0) := (blk_cell BK490.out 0).trans rfl; have hcz19_1 : w18.cell? ⟨gb490, 1, none⟩ = some (.int .i64 0) := (blk_cell BK490.out 1).trans rfl; have hcz19_2 : w18.cell? ⟨gb490, 2, none⟩ = some (.int .i64 0) := (blk_cell BK490.out 2).trans rfl; have hfz19_0 := blk_frozen BK490.out 0; have hfz19_1 := blk_frozen BK490.out 1; have hfz19_2 := blk_frozen BK490.out 2))
                      go_ret
                      exact ⟨by first | rfl | (simp [errW_none, errW_some] <;> rfl) | (simp [*, errW_none, errW_some] <;> rfl), by repeat (first | (with_reducible first | exact HB.out | apply below_alloc | apply pw_below_drewN | apply below_drew1 | refine below_set ?_ GE490.out) | exact HB.out)⟩
                    · rw [if_neg c17] at H
                      have c17b0 : decide (5 < ((rd_T80 l0 x8_1).f2)) = false := decide_eq_false c17
                      clear c17
                      by_cases c20 : x3_1.length < 17592186044416
                      · rw [if_pos c20] at H
                        have LMc20 := Aside0.mk c20
                        clear c20
                        obtain ⟨y491, hy491⟩ : ∃ y_ : List Int, y_ = (x3_1 ++ [(rd_T80 l0 x8_1).f0]) := ⟨_, rfl⟩
                        replace H : (impl_PiecesOk.l0 k1 l0 y491 l0 (l0.length : Int) (wrap64 (x8_1 + 1))) = some r := by first | (rw [hy491]; with_reducible exact H) | (have H2_ := (Option.bind_some _ _).symm.trans H; rw [hy491]; with_reducible exact H2_) | (have H2_ := (Option.bind_some _ _).symm.trans H; with_reducible exact H2_) | with_reducible exact H | (rw [hy491]; exact H) | exact H
                        have Ny491 := Aside0.mk hy491
                        clear hy491
                        have H' := Aside0.mk H
                        clear H
                        have p489 : 0 ≤ (x8_1 : Int) := of_decide_eq_true zf35_2
                        have q489 : x8_1 < (l0.length : Int) := of_decide_eq_true zf35_2
                        obtain ⟨ad489, e489, hx489_0, hx489_1, hx489_2⟩ := at_T80 HR0.out x8_1 p489 q489
                        cases e489
                        replace hx489_0 := (HB.out.cell (World.block_lt_of_cell? w _ hx489_0)).trans hx489_0
                        replace hx489_1 := (HB.out.cell (World.block_lt_of_cell? w _ hx489_1)).trans hx489_1
                        replace hx489_2 := (HB.out.cell (World.block_lt_of_cell? w _ hx489_2)).trans hx489_2
                        replace p489 := eq_true p489
                        replace q489 := eq_true q489
                        go_wp2_with (first | ((with_reducible refine gate_dst (N := 5) rfl ?_); refine box_event ?hg (N := 5) ?hd (cs := #[.int .i64 0, .int .i64 0, .int .i64 0]) (t := 80) ?hr ?_; (case hd => rfl); (case hg => rfl); (case hr => first | (go_simp; done) | (go_simp; rfl)); intro gb490 hg w21 hbox hb; have n0_ := Aside0.mk (Kd.R_below zf35_1 hb); have n1_ := Aside0.mk (below_step zf35_0 hb); have n2_ := Aside0.mk (hbox); have n3_ := Aside0.mk ((by rw [hg]; exact (below_size zf35_0) : w.heap.size ≤ gb490)); have n4_ := Aside0.mk ((by rw [hg]; exact (below_size zf35_0) : w.heap.size ≤ gb490)); clear HO_3; clear HB; have HO_3 := n0_; have HB := n1_; have BK490 := n2_; have GW490 := n3_; have GE490 := n4_; clear n0_ n1_ n2_ n3_ n4_; clear hb hbox hg; have hcz22_0 : w21.cell? ⟨gb490, 0, none⟩ = some (.int .i64 0) := (blk_cell BK490.out 0).trans rfl; have hcz22_1 : w21.cell? ⟨gb490, 1, none⟩ = some (.int .i64 0) := (blk_cell BK490.out 1).trans rfl; have hcz22_2 : w21.cell? ⟨gb490, 2, none⟩ = some (.int .i64 0) := (blk_cell BK490.out 2).trans rfl; have hfz22_0 := blk_frozen BK490.out 0; have hfz22_1 := blk_frozen BK490.out 1; have hfz22_2 := blk_frozen BK490.out 2) | ((with_reducible refine gate_builtin (b := .append) (xs := #[.tmp 35, .tmp 38]) rfl ?_); at_builtin; refine Kd.R_append (Kd.int .i64) (w0 := w) w.heap.size rfl (.tmp 35) (.tmp 38) 22 3 (.int .i64 0) 8 rfl Try.underlying22 info3 rfl (by decide) (by omega) u3 x3_1 ((rd_T80 l0 x8_1).f0) [.int .i64 ((rd_T80 l0 x8_1).f0)] (fun _ => True) (fun _ => False) rfl (by first | (go_simp; done) | (go_simp; rfl)) ?aP (fun _ hk => hk.elim) ?aF ?aO ?aB ?aS ?aL ?_; (case aP => exact rfl); (case aB => exact zf35_3); (case aF => exact (fun _ _ => trivial)); (case aO => exact (by (with_reducible repeat (first | apply Kd.R_alloc | apply Kd.R_drewN | apply Kd.R_drew)); exact Kd.R_mono (Kd.R_far (p := ⟨gb490, 2, none⟩) (Kd.R_far (p := ⟨gb490, 1, none⟩) (Kd.R_far (p := ⟨gb490, 0, none⟩) (Kd.R_types HO_3.out BK490.out (by decide)) (fun _ hk => hk.2) (.int .i64 ((rd_T80 l0 x8_1).f0))) (fun _ hk => hk.2) (.int .i64 ((rd_T80 l0 x8_1).f1))) (fun _ hk => hk.2) (.int .i64 ((rd_T80 l0 x8_1).f2))) (fun _ hk => trivial))); (case aS => exact (below_size zf35_3)); (case aL => have := LMc20.out; omega); intro v492 w23 ho hb hg hat; rw [← Ny491.out] at ho; have n0_ := Aside0.mk (blk_grown (g := gb490) (o := .cells #[.int .i64 ((rd_T80 l0 x8_1).f0), .int .i64 ((rd_T80 l0 x8_1).f1), .int .i64 ((rd_T80 l0 x8_1).f2)] 80 (0, 0)) (by (with_reducible repeat (first | refine blk_drewN ?_ _ | refine blk_drew ?_ | refine blk_alloc ?_ _)); refine blk_put (cs := #[.int .i64 ((rd_T80 l0 x8_1).f0), .int .i64 ((rd_T80 l0 x8_1).f1), .int .i64 0]) ?_ 2 _ rfl; (with_reducible repeat (first | refine blk_drewN ?_ _ | refine blk_drew ?_ | refine blk_alloc ?_ _)); refine blk_put (cs := #[.int .i64 ((rd_T80 l0 x8_1).f0), .int .i64 0, .int .i64 0]) ?_ 1 _ rfl; (with_reducible repeat (first | refine blk_drewN ?_ _ | refine blk_drew ?_ | refine blk_alloc ?_ _)); refine blk_put (cs := #[.int .i64 0, .int .i64 0, .int .i64 0]) ?_ 0 _ rfl; (with_reducible repeat (first | refine blk_drewN ?_ _ | refine blk_drew ?_ | refine blk_alloc ?_ _)); exact BK490.out) hg (Kd.R_ne HO_3.out BK490.out (by decide))); have n1_ := Aside0.mk (hb); have n2_ := Aside0.mk (ho); clear BK490; clear HB; clear HO_3; have BK490 := n0_; have HB := n1_; have HO493 := n2_; clear n0_ n1_ n2_; clear ho hb hg hat))
                        go_roundg k1
                        case measure => have := HK1.out; omega
                        case rel => exact ⟨(y491), (wrap64 (x8_1 + 1)), (by first | rfl | (simp; done) | (simp [*]; done)), H', ⟨by have := HK1.out; omega⟩, ⟨by (with_reducible repeat (first | apply Kd.R_alloc | apply Kd.R_drewN | apply Kd.R_drew)); exact HO493.out⟩, ⟨by repeat (first | (with_reducible first | exact HB.out | apply below_alloc | apply pw_below_drewN | apply below_drew1 | refine below_set ?_ GE490.out) | exact HB.out)⟩⟩
                      · rw [if_neg c20] at H
                        exact absurd H (by simp)
          · rw [if_neg c4] at H
            exact absurd H (by simp)
        · rw [if_neg c3] at H
          exact absurd H (by simp)
      · rw [if_neg c2] at H
        have c2b0 : decide (x8_1 < (l0.length : Int)) = false := decide_eq_false c2
        clear c2
        by_cases c24 : (l0.length : Int) ≤ 40
        · rw [if_pos c24] at H
          have c24b0 : decide ((l0.length : Int) ≤ 40) = true := decide_eq_true c24
          have c24b1 : decide (l0.length ≤ 40) = true := decide_eq_true (by omega)
          clear c24
          replace H := Option.bind_eq_some_iff.mp H
          obtain ⟨t494, A250, H⟩ := H
          replace H : (some t494) = some r := H
          have A25 := Aside0.mk A250
          clear A250
          obtain rfl := Option.some.inj H
          obtain ⟨Ao26, co26, eo26⟩ := Kd.R_slice HO_3.out
          subst eo26
          go_wp2_with (first | (go_at_call 69; (with_reducible refine (impl_areDifferent.calls _ _ x3_1 t494 _ ?side1 ?side2 A25.out).mono ?_); (case side1 => repeat (first | exact (Kd.R_reads' HO_3.out).2.2 | (with_reducible refine Kd.C_alloc ?_ _) | (with_reducible refine Kd.C_drewN ?_ _) | (with_reducible refine Kd.C_drew ?_))); (case side2 => exact (Kd.R_reads' HO_3.out).2.1); rintro e w27 ⟨rfl, hb⟩; have n0_ := Aside0.mk (Kd.R_below zf35_1 hb); have n1_ := Aside0.mk (below_step zf35_0 hb); clear HO_3; clear HB; have HO_3 := n0_; have HB := n1_; clear n0_ n1_; (try clear hb); (try clear hb2); (try clear hk); (try clear hi)))
          go_ret
          exact ⟨by first | rfl | (simp [errW_none, errW_some] <;> rfl) | (simp [*, errW_none, errW_some] <;> rfl), by repeat (first | (with_reducible first | exact HB.out | apply below_alloc | apply pw_below_drewN | apply below_drew1) | exact HB.out)⟩
        · rw [if_neg c24] at H
          have c24b0 : decide ((l0.length : Int) ≤ 40) = false := decide_eq_false c24
          have c24b1 : decide (l0.length ≤ 40) = false := decide_eq_false (by omega)
          clear c24
          obtain rfl := Option.some.inj H
          go_wp2
          go_ret
          exact ⟨by first | rfl | (simp [errW_none, errW_some] <;> rfl) | (simp [*, errW_none, errW_some] <;> rfl), by repeat (first | (with_reducible first | exact HB.out | apply below_alloc | apply pw_below_drewN | apply below_drew1) | exact HB.out)⟩

end Go.Proofs.Ytnldmnlfocigaaa.F

-- PRINTED by print.py (a twelfth state) out of the translation. Not trusted: Lean checks it.
import Derived.Test.YtnldmnlfocigaaaF
import Derived.Test.YtnldmnlfocigaaaF79
import Derived.Test.YtnldmnlfocigaaaF80
namespace Go.Proofs.Ytnldmnlfocigaaa.F
open Go.Proofs.Ytnldmnlfocigaaa.Opn
open Go.RowKit Go.Proofs.YtnldmnlfocigaaaW.PrintWords Go.Proofs.YtnldmnlfocigaaaW.PrintLast
set_option linter.unusedVariables false
set_option linter.unusedSimpArgs false

/-! ### spec_l07Few: function 72 -/
mutual
def spec_l07Few.l0 : Nat → List (S80) → Int → List (S62) → Int → Int → Int → Int → Option (Int)
  | 0, _, _, _, _, _, _, _ => none
  | k + 1, x1, x2, x3, x9, x10, x583000, x583001 => if x10 < (x3.length : Int) then (if 0 ≤ x10 then (if 0 ≤ x2 then (if x2 < (x1.length : Int) then ((spec_l07Takes.f x583000 x583001 ((rd_T62 x3 x10).f0) ((rd_T62 x3 x10).f1) ((rd_T62 x3 x10).f2) ((rd_T80 x1 x2).f0) ((rd_T80 x1 x2).f1) ((rd_T80 x1 x2).f2)).bind fun t601 => (if t601 = true then ((some (([] : List (S62)) : List (S62))).bind fun y602 => (if y602.length + x3.length < 3518437208883 then ((some (y602 ++ x3 : List (S62))).bind fun y605 => ((spec_l07With.f ((rd_T62 x3 x10).f0) ((rd_T62 x3 x10).f1) ((rd_T62 x3 x10).f2) ((rd_T80 x1 x2).f0) ((rd_T80 x1 x2).f1) ((rd_T80 x1 x2).f2)).bind fun bt610 => (if x10 < (y605.length : Int) then ((spec_l07Few.f k x583000 x583001 x1 (wrap64 (x2 + 1)) (y605.set (x10 : Int).toNat (⟨bt610.1, bt610.2.1, bt610.2.2⟩ : S62))).bind fun t616 => (spec_l07Few.l0 k x1 x2 x3 (mn x9 t616) (wrap64 (x10 + 1)) x583000 x583001)) else (none)))) else (none))) else (spec_l07Few.l0 k x1 x2 x3 x9 (wrap64 (x10 + 1)) x583000 x583001))) else (none)) else (none)) else (none)) else (some x9)
def spec_l07Few.f : Nat → Int → Int → List (S80) → Int → List (S62) → Option (Int)
  | 0, _, _, _, _, _ => none
  | k + 1, a0_0, a0_1, l1, a2, l3 => if a2 ≥ (l1.length : Int) then (some (l3.length : Int)) else ((some (([] : List (S62)) : List (S62))).bind fun y583 => (if y583.length + l3.length < 3518437208883 then ((some (y583 ++ l3 : List (S62))).bind fun y586 => (if 0 ≤ a2 then (if a2 < (l1.length : Int) then ((spec_l07With.f 0 0 ([] : List Int) ((rd_T80 l1 a2).f0) ((rd_T80 l1 a2).f1) ((rd_T80 l1 a2).f2)).bind fun bt590 => (if y586.length < 3518437208883 then ((spec_l07Few.f k a0_0 a0_1 l1 (wrap64 (a2 + 1)) (y586 ++ [(⟨bt590.1, bt590.2.1, bt590.2.2⟩ : S62)])).bind fun t598 => (spec_l07Few.l0 k l1 a2 l3 t598 0 a0_0 a0_1)) else (none))) else (none)) else (none))) else (none)))
end
theorem spec_l07Few.mono_l : ∀ k, (∀ y0 y1 y2 y3 y4, LeO (spec_l07Few.f k y0 y1 y2 y3 y4) (spec_l07Few.f (k + 1) y0 y1 y2 y3 y4)) ∧ (∀ y0 y1 y2 y3 y4 y5 y6, LeO (spec_l07Few.l0 k y0 y1 y2 y3 y4 y5 y6) (spec_l07Few.l0 (k + 1) y0 y1 y2 y3 y4 y5 y6))
  | 0 => ⟨fun _ _ _ _ _ r h => by simp [spec_l07Few.f] at h, fun _ _ _ _ _ _ _ r h => by simp [spec_l07Few.l0] at h⟩
  | k + 1 => by
    obtain ⟨ih0, ih1⟩ := spec_l07Few.mono_l k
    refine ⟨?_, ?_⟩
    · intro y0 y1 y2 y3 y4
      unfold spec_l07Few.f
      repeat' first
      | (with_reducible exact ih0 _ _ _ _ _)
      | (with_reducible exact ih1 _ _ _ _ _ _ _)
      | (with_reducible exact LeO.refl _)
      | (with_reducible exact LeO.none _)
      | (with_reducible refine LeO.ite ?_ ?_)
      | (with_reducible refine LeO.bind ?_ (fun _ => ?_))
      | exact ih0 _ _ _ _ _
      | exact ih1 _ _ _ _ _ _ _
      | exact LeO.none _
      | refine LeO.ite ?_ ?_
      | refine LeO.bind ?_ (fun _ => ?_)
    · intro y0 y1 y2 y3 y4 y5 y6
      unfold spec_l07Few.l0
      repeat' first
      | (with_reducible exact ih0 _ _ _ _ _)
      | (with_reducible exact ih1 _ _ _ _ _ _ _)
      | (with_reducible exact LeO.refl _)
      | (with_reducible exact LeO.none _)
      | (with_reducible refine LeO.ite ?_ ?_)
      | (with_reducible refine LeO.bind ?_ (fun _ => ?_))
      | exact ih0 _ _ _ _ _
      | exact ih1 _ _ _ _ _ _ _
      | exact LeO.none _
      | refine LeO.ite ?_ ?_
      | refine LeO.bind ?_ (fun _ => ?_)
theorem spec_l07Few.mono : ∀ a0 a1 a2 a3 a4 k, LeO (spec_l07Few.f k a0 a1 a2 a3 a4) (spec_l07Few.f (k + 1) a0 a1 a2 a3 a4) := by
  intro a0 a1 a2 a3 a4 k
  obtain ⟨ih0, ih1⟩ := spec_l07Few.mono_l k
  exact ih0 a0 a1 a2 a3 a4
def spec_l07Few.T3 : Bool × List (List Nat × List Nat) := (true, [([], []), ([], []), ([], []), ([2], [2]), ([], []), ([], []), ([4, 5], [4, 5]), ([], []), ([], []), ([], []), ([8, 9], [8, 9]), ([10], [10]), ([7, 11, 6], [7, 11]), ([12], [12]), ([6, 13, 12], [6, 13]), ([0, 1, 3, 14, 14], [0, 1, 3, 14]), ([15, 15, 0, 1, 2, 3, 4, 5, 6, 7, 8, 9, 10, 11, 12, 13, 14, 15], [15])])
def spec_l07Few.B3 : List Nat := [0, 0, 0, 4, 0, 0, 48, 0, 0, 0, 768, 1792, 4080, 8176, 16368, 32767, 65535]
theorem spec_l07Few.tab3 : rtab .any (opsOf Try.f72 3) = spec_l07Few.T3 := by kernel_rfl
theorem spec_l07Few.bits3 : waitsOk spec_l07Few.T3.2 spec_l07Few.B3 = true := by kernel_rfl
def spec_l07Few.T7 : Bool × List (List Nat × List Nat) := (true, [([], []), ([], []), ([], []), ([1, 2], [1, 2]), ([3], [3]), ([], []), ([], []), ([5, 6], [5, 6]), ([7], [7]), ([0, 4, 8], [0, 4, 8])])
def spec_l07Few.B7 : List Nat := [0, 0, 0, 6, 14, 0, 0, 96, 224, 511]
theorem spec_l07Few.tab7 : rtab .any (opsOf Try.f72 7) = spec_l07Few.T7 := by kernel_rfl
theorem spec_l07Few.bits7 : waitsOk spec_l07Few.T7.2 spec_l07Few.B7 = true := by kernel_rfl
def spec_l07Few.T9 : Bool × List (List Nat × List Nat) := (true, [([], []), ([], []), ([], []), ([], []), ([2, 3], [2, 3]), ([4], [4]), ([], []), ([], []), ([6, 7], [6, 7]), ([8], [8]), ([5, 9], [5, 9]), ([0, 1, 0, 1, 2, 3, 4, 5, 6, 7, 8, 9, 10], [0, 1]), ([11, 10, 10, 0, 1, 2, 3, 4, 5, 6, 7, 8, 9, 10], [10, 11])])
def spec_l07Few.B9 : List Nat := [0, 0, 0, 0, 12, 28, 0, 0, 192, 448, 1020, 2047, 4095]
theorem spec_l07Few.tab9 : rtab .any (opsOf Try.f72 9) = spec_l07Few.T9 := by kernel_rfl
theorem spec_l07Few.bits9 : waitsOk spec_l07Few.T9.2 spec_l07Few.B9 = true := by kernel_rfl
set_option maxHeartbeats 8000000 in
set_option maxRecDepth 100000 in
theorem spec_l07Few.calls (k : Nat) : ∀ (a0_0 : Int) (a0_1 : Int) (A1 : Option Addr) (c1 : Nat) (l1 : List (S80)) (a2 : Int) (P3_ : Nat → Prop) (A3 : Option Addr) (c3 : Nat) (l3 : List (S62)) (r : Int) (w : World) (hr1 : Kd.C k80 w A1 l1.length l1) (hc1 : l1.length ≤ c1) (hs3 : Kd.V k62 62 w w.heap.size (fun k_ => P3_ k_) (.slice A3 l3.length c3) l3) (h : spec_l07Few.f k a0_0 a0_1 l1 a2 l3 = some r),
    Calls Try.prog 72 #[.agg #[.int .i64 a0_0, .int .i64 a0_1], .slice A1 l1.length c1, .int .i64 a2, .slice A3 l3.length c3] w fun e w' => e = .returned (.int .i64 r) ∧ Below w.heap.size w w' := by
  induction k using Nat.strongRecOn with
  | _ k ih =>
  intro a0_0 a0_1 A1 c1 l1 a2 P3_ A3 c3 l3 r w hr1 hc1 hs3 h
  cases k with
  | zero => exact absurd h (by simp [spec_l07Few.f])
  | succ k =>
  simp only [spec_l07Few.f] at h
  have hu49 := Try.underlying49
  have hu62 := Try.underlying62
  have hu80 := Try.underlying80
  have HR1 := Aside0.mk hr1
  have HC1 := Aside0.mk hc1
  clear hr1 hc1
  have HO3 := Aside0.mk (show Kd.V k62 62 w w.heap.size (fun k_ => (P3_ k_ ∨ w.heap.size ≤ k_)) (.slice A3 l3.length c3) l3 from Kd.V_mono hs3 (fun k_ hk => .inl hk))
  have HB := Aside0.mk (Below.refl w.heap.size w)
  have H : (if a2 ≥ (l1.length : Int) then (some (l3.length : Int)) else ((some (([] : List (S62)) : List (S62))).bind fun y583 => (if y583.length + l3.length < 3518437208883 then ((some (y583 ++ l3 : List (S62))).bind fun y586 => (if 0 ≤ a2 then (if a2 < (l1.length : Int) then ((spec_l07With.f 0 0 ([] : List Int) ((rd_T80 l1 a2).f0) ((rd_T80 l1 a2).f1) ((rd_T80 l1 a2).f2)).bind fun bt590 => (if y586.length < 3518437208883 then ((spec_l07Few.f k a0_0 a0_1 l1 (wrap64 (a2 + 1)) (y586 ++ [(⟨bt590.1, bt590.2.1, bt590.2.2⟩ : S62)])).bind fun t598 => (spec_l07Few.l0 k l1 a2 l3 t598 0 a0_0 a0_1)) else (none))) else (none)) else (none))) else (none)))) = some r := h
  clear h
  by_cases c5 : a2 ≥ (l1.length : Int)
  · rw [if_pos c5] at H
    have c5b0 : decide ((l1.length : Int) ≤ a2) = true := decide_eq_true c5
    clear c5
    obtain rfl := Option.some.inj H
    go_enter Try.func72, Try.ntmps72
    go_wp2_with (first | ((with_reducible refine gate_dst (N := 4) rfl ?_); refine box_event ?hg (N := 4) ?hd (cs := #[.int .i64 a0_0, .int .i64 a0_1]) (t := 49) ?hr ?_; (case hd => rfl); (case hg => rfl); (case hr => first | (go_simp; done) | (go_simp; rfl)); intro gb582 hg w6 hbox hb; have n0_ := Aside0.mk (Kd.V_below (Kd.V_elderB (by (with_reducible repeat (first | apply Kd.V_alloc | apply Kd.V_drewN | apply Kd.V_drew)); exact HO3.out) gb582 (Nat.le_of_eq hg.symm)) hb); have n1_ := Aside0.mk (below_step (by repeat (first | (with_reducible first | exact HB.out | apply below_alloc | apply pw_below_drewN | apply below_drew1) | exact HB.out)) hb); have n2_ := Aside0.mk (hbox); have n3_ := Aside0.mk ((by rw [hg]; exact (below_size (by repeat (first | (with_reducible first | exact HB.out | apply below_alloc | apply pw_below_drewN | apply below_drew1) | exact HB.out))) : w.heap.size ≤ gb582)); have n4_ := Aside0.mk ((by rw [hg]; exact (below_size (by repeat (first | (with_reducible first | exact HB.out | apply below_alloc | apply pw_below_drewN | apply below_drew1) | exact HB.out))) : w.heap.size ≤ gb582)); clear HO3; clear HB; have HO3 := n0_; have HB := n1_; have BK582 := n2_; have GW582 := n3_; have GE582 := n4_; clear n0_ n1_ n2_ n3_ n4_; clear hb hbox hg))
    go_ret
    exact ⟨by first | rfl | (simp [errW_none, errW_some] <;> rfl) | (simp [*, errW_none, errW_some] <;> rfl), by repeat (first | (with_reducible first | exact HB.out | apply below_alloc | apply pw_below_drewN | apply below_drew1 | refine below_set ?_ GE582.out) | exact HB.out)⟩
  · rw [if_neg c5] at H
    have c5b0 : decide ((l1.length : Int) ≤ a2) = false := decide_eq_false c5
    clear c5
    obtain ⟨y583, hy583⟩ : ∃ y_ : List (S62), y_ = (([] : List (S62))) := ⟨_, rfl⟩
    replace H : (if y583.length + l3.length < 3518437208883 then ((some (y583 ++ l3 : List (S62))).bind fun y586 => (if 0 ≤ a2 then (if a2 < (l1.length : Int) then ((spec_l07With.f 0 0 ([] : List Int) ((rd_T80 l1 a2).f0) ((rd_T80 l1 a2).f1) ((rd_T80 l1 a2).f2)).bind fun bt590 => (if y586.length < 3518437208883 then ((spec_l07Few.f k a0_0 a0_1 l1 (wrap64 (a2 + 1)) (y586 ++ [(⟨bt590.1, bt590.2.1, bt590.2.2⟩ : S62)])).bind fun t598 => (spec_l07Few.l0 k l1 a2 l3 t598 0 a0_0 a0_1)) else (none))) else (none)) else (none))) else (none)) = some r := by first | (rw [hy583]; with_reducible exact H) | (have H2_ := (Option.bind_some _ _).symm.trans H; rw [hy583]; with_reducible exact H2_) | (have H2_ := (Option.bind_some _ _).symm.trans H; with_reducible exact H2_) | with_reducible exact H | (rw [hy583]; exact H) | exact H
    have Ny583 := Aside0.mk hy583
    clear hy583
    by_cases c7 : y583.length + l3.length < 3518437208883
    · rw [if_pos c7] at H
      have LMc7 := Aside0.mk c7
      clear c7
      obtain ⟨y586, hy586⟩ : ∃ y_ : List (S62), y_ = (y583 ++ l3) := ⟨_, rfl⟩
      replace H : (if 0 ≤ a2 then (if a2 < (l1.length : Int) then ((spec_l07With.f 0 0 ([] : List Int) ((rd_T80 l1 a2).f0) ((rd_T80 l1 a2).f1) ((rd_T80 l1 a2).f2)).bind fun bt590 => (if y586.length < 3518437208883 then ((spec_l07Few.f k a0_0 a0_1 l1 (wrap64 (a2 + 1)) (y586 ++ [(⟨bt590.1, bt590.2.1, bt590.2.2⟩ : S62)])).bind fun t598 => (spec_l07Few.l0 k l1 a2 l3 t598 0 a0_0 a0_1)) else (none))) else (none)) else (none)) = some r := by first | (rw [hy586]; with_reducible exact H) | (have H2_ := (Option.bind_some _ _).symm.trans H; rw [hy586]; with_reducible exact H2_) | (have H2_ := (Option.bind_some _ _).symm.trans H; with_reducible exact H2_) | with_reducible exact H | (rw [hy586]; exact H) | exact H
      have Ny586 := Aside0.mk hy586
      clear hy586
      by_cases c8 : 0 ≤ a2
      · rw [if_pos c8] at H
        have c8b0 : decide (0 ≤ a2) = true := decide_eq_true c8
        clear c8
        by_cases c9 : a2 < (l1.length : Int)
        · rw [if_pos c9] at H
          have c9b0 : decide (a2 < (l1.length : Int)) = true := decide_eq_true c9
          clear c9
          replace H := Option.bind_eq_some_iff.mp H
          obtain ⟨⟨t590, t591, t592⟩, A100, H⟩ := H
          replace H : (if y586.length < 3518437208883 then ((spec_l07Few.f k a0_0 a0_1 l1 (wrap64 (a2 + 1)) (y586 ++ [(⟨t590, t591, t592⟩ : S62)])).bind fun t598 => (spec_l07Few.l0 k l1 a2 l3 t598 0 a0_0 a0_1)) else (none)) = some r := H
          have A10 := Aside0.mk A100
          clear A100
          by_cases c11 : y586.length < 3518437208883
          · rw [if_pos c11] at H
            have LMc11 := Aside0.mk c11
            clear c11
            obtain ⟨y595, hy595⟩ : ∃ y_ : List (S62), y_ = (y586 ++ [(⟨t590, t591, t592⟩ : S62)]) := ⟨_, rfl⟩
            replace H : ((spec_l07Few.f k a0_0 a0_1 l1 (wrap64 (a2 + 1)) y595).bind fun t598 => (spec_l07Few.l0 k l1 a2 l3 t598 0 a0_0 a0_1)) = some r := by first | (rw [hy595]; with_reducible exact H) | (have H2_ := (Option.bind_some _ _).symm.trans H; rw [hy595]; with_reducible exact H2_) | (have H2_ := (Option.bind_some _ _).symm.trans H; with_reducible exact H2_) | with_reducible exact H | (rw [hy595]; exact H) | exact H
            have Ny595 := Aside0.mk hy595
            clear hy595
            replace H := Option.bind_eq_some_iff.mp H
            obtain ⟨t598, A120, H⟩ := H
            replace H : (spec_l07Few.l0 k l1 a2 l3 t598 0 a0_0 a0_1) = some r := H
            have A12 := Aside0.mk A120
            clear A120
            have H' := Aside0.mk H
            clear H
            go_enter Try.func72, Try.ntmps72
            try go_wp2_with (first | ((with_reducible refine gate_dst (N := 4) rfl ?_); refine box_event ?hg (N := 4) ?hd (cs := #[.int .i64 a0_0, .int .i64 a0_1]) (t := 49) ?hr ?_; (case hd => rfl); (case hg => rfl); (case hr => first | (go_simp; done) | (go_simp; rfl)); intro gb582 hg w13 hbox hb; have n0_ := Aside0.mk (Kd.V_below (Kd.V_elderB (by (with_reducible repeat (first | apply Kd.V_alloc | apply Kd.V_drewN | apply Kd.V_drew)); exact HO3.out) gb582 (Nat.le_of_eq hg.symm)) hb); have n1_ := Aside0.mk (below_step (by repeat (first | (with_reducible first | exact HB.out | apply below_alloc | apply pw_below_drewN | apply below_drew1) | exact HB.out)) hb); have n2_ := Aside0.mk (hbox); have n3_ := Aside0.mk ((by rw [hg]; exact (below_size (by repeat (first | (with_reducible first | exact HB.out | apply below_alloc | apply pw_below_drewN | apply below_drew1) | exact HB.out))) : w.heap.size ≤ gb582)); have n4_ := Aside0.mk ((by rw [hg]; exact (below_size (by repeat (first | (with_reducible first | exact HB.out | apply below_alloc | apply pw_below_drewN | apply below_drew1) | exact HB.out))) : w.heap.size ≤ gb582)); clear HO3; clear HB; have HO3 := n0_; have HB := n1_; have BK582 := n2_; have GW582 := n3_; have GE582 := n4_; clear n0_ n1_ n2_ n3_ n4_; clear hb hbox hg))
            have n0_ := Aside0.mk (Kd.V_drew HO3.out)
            have n1_ := Aside0.mk (blk_drew BK582.out)
            have n2_ := Aside0.mk (below_drew1 HB.out)
            clear HO3
            clear BK582
            clear HB
            have HO3 := n0_
            have BK582 := n1_
            have HB := n2_
            clear n0_ n1_ n2_
            have p589 : 0 ≤ (a2 : Int) := of_decide_eq_true (by first | (with_reducible assumption) | assumption)
            have q589 : a2 < (l1.length : Int) := of_decide_eq_true (by first | (with_reducible assumption) | assumption)
            obtain ⟨ad589, e589, hx589_0, hx589_1, hx589_2⟩ := at_T80 HR1.out a2 p589 q589
            have hw589_2 := hx589_2
            have hw589_1 := hx589_1
            have hw589_0 := hx589_0
            cases e589
            replace hx589_0 := (HB.out.cell (World.block_lt_of_cell? w _ hx589_0)).trans hx589_0
            replace hx589_1 := (HB.out.cell (World.block_lt_of_cell? w _ hx589_1)).trans hx589_1
            replace hx589_2 := (HB.out.cell (World.block_lt_of_cell? w _ hx589_2)).trans hx589_2
            replace p589 := eq_true p589
            replace q589 := eq_true q589
            refine start_ (n := 17) (S := fun w' => w'.cell? ⟨gb582, 0, none⟩ = some (.int .i64 a0_0) ∧ w'.cell? ⟨gb582, 1, none⟩ = some (.int .i64 a0_1) ∧ w'.cell? (ad589.add ((a2).toNat * 3)) = some (.int .i64 ((rd_T80 l1 a2).f0)) ∧ w'.cell? ⟨(ad589.add ((a2).toNat * 3)).block, (ad589.add ((a2).toNat * 3)).off + 1, none⟩ = some (.int .i64 ((rd_T80 l1 a2).f1)) ∧ w'.cell? ⟨(ad589.add ((a2).toNat * 3)).block, (ad589.add ((a2).toNat * 3)).off + 2, none⟩ = some (.int .i64 ((rd_T80 l1 a2).f2))) (ds := []) #[false, false, false, false, false, false, false, false, false, false, false, false, false, false, false, false, false] (by kernel_rfl) rfl rfl ⟨(blk_cell BK582.out 0).trans rfl, (blk_cell BK582.out 1).trans rfl, ((HB.out.cell (World.block_lt_of_cell? w _ hw589_0)).trans hw589_0), ((HB.out.cell (World.block_lt_of_cell? w _ hw589_1)).trans hw589_1), ((HB.out.cell (World.block_lt_of_cell? w _ hw589_2)).trans hw589_2)⟩ (fun hHeld => ?_); refine with_tabW spec_l07Few.tab3 spec_l07Few.bits3 (fun HT_ HW_ => ?_)
            generalize w13.drew = w14 at HO3 BK582 HB hx589_0 hx589_1 hx589_2 hHeld ⊢
            refine pure_ (i := 1) (N := some 19) (v := ?_) (a' := ?_) #[false, true, false, false, false, false, false, false, false, false, false, false, false, false, false, false, false] rfl rfl (any_of HT_.out (by kernel_rfl)) (fun _ _ _ h => h) (Or.inl ⟨by rfl, ?_⟩) ?_ ?_
            rotate_left
            · intro w'
              go_simp
              with_reducible rfl
            rotate_left
            · simp only [Act.put, List.setIfInBounds_toArray, List.set_cons_zero, List.set_cons_succ, i64_w, i32_w]
              rfl
            refine pure_ (i := 2) (N := some 20) (v := ?_) (a' := ?_) #[false, true, true, false, false, false, false, false, false, false, false, false, false, false, false, false, false] rfl rfl (any_of HT_.out (by kernel_rfl)) (fun _ _ _ h => h) (Or.inl ⟨by rfl, ?_⟩) ?_ ?_
            rotate_left
            · intro w'
              go_simp
              with_reducible rfl
            rotate_left
            · simp only [Act.put, List.setIfInBounds_toArray, List.set_cons_zero, List.set_cons_succ, i64_w, i32_w]
              rfl
            refine pure_ (i := 3) (N := some 21) (v := ?_) (a' := ?_) #[false, true, true, true, false, false, false, false, false, false, false, false, false, false, false, false, false] rfl rfl (any_of HT_.out (by kernel_rfl)) (fun _ _ _ h => h) (Or.inl ⟨by rfl, ?_⟩) ?_ ?_
            rotate_left
            · intro w'
              go_simp
              with_reducible rfl
            rotate_left
            · simp only [Act.put, List.setIfInBounds_toArray, List.set_cons_zero, List.set_cons_succ, i64_w, i32_w]
              rfl
            refine pure_ (i := 5) (N := some 23) (v := ?_) (a' := ?_) #[false, true, true, true, false, true, false, false, false, false, false, false, false, false, false, false, false] rfl rfl (any_of HT_.out (by kernel_rfl)) (fun _ _ _ h => h) (Or.inl ⟨by rfl, ?_⟩) ?_ ?_
            rotate_left
            · intro w'
              go_simp
              with_reducible rfl
            rotate_left
            · simp only [Act.put, List.setIfInBounds_toArray, List.set_cons_zero, List.set_cons_succ, i64_w, i32_w]
              rfl
            refine pure_ (i := 7) (N := some 25) (v := ?_) (a' := ?_) #[false, true, true, true, false, true, false, true, false, false, false, false, false, false, false, false, false] rfl rfl (any_of HT_.out (by kernel_rfl)) (fun _ _ _ h => h) (Or.inl ⟨by rfl, ?_⟩) ?_ ?_
            rotate_left
            · intro w'
              go_simp
              with_reducible rfl
            rotate_left
            · simp only [Act.put, List.setIfInBounds_toArray, List.set_cons_zero, List.set_cons_succ, i64_w, i32_w]
              rfl
            refine pure_ (i := 8) (N := some 26) (v := ?_) (a' := ?_) #[false, true, true, true, false, true, false, true, true, false, false, false, false, false, false, false, false] rfl rfl (any_of HT_.out (by kernel_rfl)) (fun _ _ _ h => h) (Or.inl ⟨by rfl, ?_⟩) ?_ ?_
            rotate_left
            · intro w'
              go_simp
              with_reducible rfl
            rotate_left
            · simp only [Act.put, List.setIfInBounds_toArray, List.set_cons_zero, List.set_cons_succ, i64_w, i32_w]
              rfl
            refine pure_ (i := 9) (N := some 27) (v := ?_) (a' := ?_) #[false, true, true, true, false, true, false, true, true, true, false, false, false, false, false, false, false] rfl rfl (any_of HT_.out (by kernel_rfl)) (fun _ _ _ h => h) (Or.inl ⟨by rfl, ?_⟩) ?_ ?_
            rotate_left
            · intro w'
              go_simp
              with_reducible rfl
            rotate_left
            · simp only [Act.put, List.setIfInBounds_toArray, List.set_cons_zero, List.set_cons_succ, i64_w, i32_w]
              rfl
            refine pure_ (i := 10) (N := some 28) (v := ?_) (a' := ?_) #[false, true, true, true, false, true, false, true, true, true, true, false, false, false, false, false, false] rfl rfl (any_of HT_.out (by kernel_rfl)) (fun _ _ _ h => h) (Or.inl ⟨by rfl, ?_⟩) ?_ ?_
            rotate_left
            · intro w'
              go_simp
              with_reducible rfl
            rotate_left
            · simp only [Act.put, List.setIfInBounds_toArray, List.set_cons_zero, List.set_cons_succ, i64_w, i32_w]
              rfl
            refine take_ (i := 0) (N := some 18) (v := ?_) (a' := ?_) #[true, true, true, true, false, true, false, true, true, true, true, false, false, false, false, false, false] rfl rfl (take_ofW HT_.out HW_.out (by kernel_rfl)) (fun _ _ _ h => h) (Or.inl ⟨by rfl, ?_⟩) hHeld ?_ ?_
            rotate_left
            · rintro w' ⟨s0, s1, s2, s3, s4⟩
              go_simp
              with_reducible rfl
            rotate_left
            · simp only [Act.put, List.setIfInBounds_toArray, List.set_cons_zero, List.set_cons_succ, i64_w, i32_w]
              rfl
            refine take_ (i := 11) (N := some 29) (v := ?_) (a' := ?_) #[true, true, true, true, false, true, false, true, true, true, true, true, false, false, false, false, false] rfl rfl (take_ofW HT_.out HW_.out (by kernel_rfl)) (fun _ _ _ h => h) (Or.inl ⟨by rfl, ?_⟩) hHeld ?_ ?_
            rotate_left
            · rintro w' ⟨s0, s1, s2, s3, s4⟩
              go_simp
              with_reducible rfl
            rotate_left
            · simp only [Act.put, List.setIfInBounds_toArray, List.set_cons_zero, List.set_cons_succ, i64_w, i32_w]
              rfl
            refine one_ (i := 4) (N := some 22) #[true, true, true, true, true, true, false, true, true, true, true, true, false, false, false, false, false] rfl rfl (one_of HT_.out (by kernel_rfl)) (by decide) (fun K hK => ?_)
            refine Kd.N_lit_step k62 _ 62 ?hg (N' := 22) ?hd (xs := ([] : List (S62))) (inner := []) (ok := (fun k_ => (P3_ k_ ∨ w.heap.size ≤ k_) ∧ k_ ≠ gb582)) (okp := (fun k_ => (P3_ k_ ∨ w.heap.size ≤ k_) ∧ k_ ≠ gb582)) ?hr ?hp (fun _ hk => hk) ((show ∀ k_, w14.heap.size ≤ k_ → (fun k_ => (P3_ k_ ∨ w.heap.size ≤ k_) ∧ k_ ≠ gb582) k_ from fun k_ hk => ⟨(.inr (Nat.le_trans (below_size (by repeat (first | (with_reducible first | exact HB.out | apply below_alloc | apply pw_below_drewN | apply below_drew1 | refine below_set ?_ GE582.out) | exact HB.out))) hk)), Kd.freshB (g := gb582) (o := .cells #[.int .i64 a0_0, .int .i64 a0_1] 49 (0, 0)) (by (with_reducible repeat (first | refine blk_drewN ?_ _ | refine blk_drew ?_ | refine blk_alloc ?_ _)); exact BK582.out) k_ hk⟩) _ (Nat.le_refl _)) (Below.refl _ _) (Nat.le_refl _) (by simp) ?_; (case hd => rfl); (case hg => rfl); (case hr => first | (go_simp; done) | (go_simp; rfl)); (case hp => exact (Reps.none _ _))
            intro v584 w15 ho16 hb hg_ hnew_
            clear hg_ hnew_
            (first | rw [← Ny583.out] at ho16 | (simp only [Int.reduceToNat] at ho16; rw [← Ny583.out] at ho16))
            have n0_ := Aside0.mk (Kd.V_elder' (by (with_reducible repeat (first | apply Kd.V_alloc | apply Kd.V_drewN | apply Kd.V_drew)); exact HO3.out) (Kd.N_base ho16) hb)
            have n1_ := Aside0.mk (Kd.N_lower ho16 (below_size (by repeat (first | (with_reducible first | exact HB.out | apply below_alloc | apply pw_below_drewN | apply below_drew1 | refine below_set ?_ GE582.out) | exact HB.out))))
            have n2_ := Aside0.mk (blk_below (g := gb582) (o := .cells #[.int .i64 a0_0, .int .i64 a0_1] 49 (0, 0)) (by (with_reducible repeat (first | refine blk_drewN ?_ _ | refine blk_drew ?_ | refine blk_alloc ?_ _)); exact BK582.out) hb)
            have n3_ := Aside0.mk (below_step (by repeat (first | (with_reducible first | exact HB.out | apply below_alloc | apply pw_below_drewN | apply below_drew1 | refine below_set ?_ GE582.out) | exact HB.out)) hb)
            clear HO3
            clear BK582
            clear HB
            have HO3 := n0_
            have HO585 := n1_
            have BK582 := n2_
            have HB := n3_
            clear n0_ n1_ n2_ n3_
            clear hb ho16
            refine hK.out _ _ ⟨(blk_cell BK582.out 0).trans rfl, (blk_cell BK582.out 1).trans rfl, ((HB.out.cell (World.block_lt_of_cell? w _ hw589_0)).trans hw589_0), ((HB.out.cell (World.block_lt_of_cell? w _ hw589_1)).trans hw589_1), ((HB.out.cell (World.block_lt_of_cell? w _ hw589_2)).trans hw589_2)⟩ (fun hHeld => ?_)
            clear hK K
            refine norm_ (a' := ?_) ?_ ?_
            rotate_left
            · show Act.put _ (some 22) _ = _
              simp only [Act.put, List.setIfInBounds_toArray, List.set_cons_zero, List.set_cons_succ, i64_w, i32_w]
              rfl
            refine one_ (i := 6) (N := some 24) #[true, true, true, true, true, true, true, true, true, true, true, true, false, false, false, false, false] rfl rfl (one_of HT_.out (by kernel_rfl)) (by decide) (fun K hK => ?_)
            refine Kd.N_append_rows_step k62 (w0 := w) w.heap.size (by rfl) (.tmp 22) (.tmp 23) 52 62 (.agg #[(.int .i64 0), (.int .i64 0), (.slice none 0 0)]) 40 rfl Try.underlying52 info62 rfl (by decide) (by omega) v584 y583 l3 _ _ _ (fun k_ => (P3_ k_ ∨ w.heap.size ≤ k_) ∧ k_ ≠ gb582) (fun k_ => ((fun k_ => (P3_ k_ ∨ w.heap.size ≤ k_) ∧ k_ ≠ gb582)) k_ ∧ some k_ ≠ (v584 : Value).ownBlock) rfl rfl ?aO ?aR (fun _ hk => hk) ?aF ?aB ?aS ?aL ?_
            (case aR => exact (by skip; exact Kd.V_F (Kd.V_mono (ok' := (fun k_ => ((fun k_ => (P3_ k_ ∨ w.heap.size ≤ k_) ∧ k_ ≠ gb582)) k_ ∧ some k_ ≠ (v584 : Value).ownBlock)) (HO3.out) (fun k_ hk => ⟨⟨hk.1.1, hk.1.2⟩, hk.2⟩))))
            (case aB => exact (by repeat (first | (with_reducible first | exact HB.out | apply below_alloc | apply pw_below_drewN | apply below_drew1 | refine below_set ?_ GE582.out) | exact HB.out)))
            (case aF => exact (fun k_ hk => ⟨(.inr (Nat.le_trans (below_size (by repeat (first | (with_reducible first | exact HB.out | apply below_alloc | apply pw_below_drewN | apply below_drew1 | refine below_set ?_ GE582.out) | exact HB.out))) hk)), Kd.freshB (g := gb582) (o := .cells #[.int .i64 a0_0, .int .i64 a0_1] 49 (0, 0)) (by (with_reducible repeat (first | refine blk_drewN ?_ _ | refine blk_drew ?_ | refine blk_alloc ?_ _)); exact BK582.out) k_ hk⟩))
            (case aO => exact (by (with_reducible repeat (first | apply Kd.N_alloc | apply Kd.N_drewN | apply Kd.N_drew)); exact HO585.out))
            (case aS => exact (below_size (by repeat (first | (with_reducible first | exact HB.out | apply below_alloc | apply pw_below_drewN | apply below_drew1 | refine below_set ?_ GE582.out) | exact HB.out))))
            (case aL => have := LMc7.out; omega)
            intro v587 w17 ho hb hg hat
            rw [← Ny586.out] at ho
            have n0_ := Aside0.mk (Kd.V_afterv (ok := (fun k_ => (P3_ k_ ∨ w.heap.size ≤ k_) ∧ k_ ≠ gb582)) (by (with_reducible repeat (first | apply Kd.V_alloc | apply Kd.V_drewN | apply Kd.V_drew)); exact HO3.out) hg hat)
            have n1_ := Aside0.mk (blk_grown (g := gb582) (o := .cells #[.int .i64 a0_0, .int .i64 a0_1] 49 (0, 0)) (by (with_reducible repeat (first | refine blk_drewN ?_ _ | refine blk_drew ?_ | refine blk_alloc ?_ _)); exact BK582.out) hg (Kd.N_ne HO585.out BK582.out (by decide)))
            have n2_ := Aside0.mk (hb)
            have n3_ := Aside0.mk (ho)
            clear HO3
            clear BK582
            clear HB
            clear HO585
            have HO3 := n0_
            have BK582 := n1_
            have HB := n2_
            have HO588 := n3_
            clear n0_ n1_ n2_ n3_
            clear ho hb hg hat
            refine hK.out _ _ ⟨(blk_cell BK582.out 0).trans rfl, (blk_cell BK582.out 1).trans rfl, ((HB.out.cell (World.block_lt_of_cell? w _ hw589_0)).trans hw589_0), ((HB.out.cell (World.block_lt_of_cell? w _ hw589_1)).trans hw589_1), ((HB.out.cell (World.block_lt_of_cell? w _ hw589_2)).trans hw589_2)⟩ (fun hHeld => ?_)
            clear hK K
            refine norm_ (a' := ?_) ?_ ?_
            rotate_left
            · show Act.put _ (some 24) _ = _
              simp only [Act.put, List.setIfInBounds_toArray, List.set_cons_zero, List.set_cons_succ, i64_w, i32_w]
              rfl
            refine one_ (i := 12) (N := some 30) #[true, true, true, true, true, true, true, true, true, true, true, true, true, false, false, false, false] rfl rfl (one_of HT_.out (by kernel_rfl)) (by decide) (fun K hK => ?_)
            refine goes_ Try.func80 (by kernel_rfl) rfl #[.agg #[.int .i64 0, .int .i64 0, .slice none 0 0], .agg #[.int .i64 ((rd_T80 l1 a2).f0), .int .i64 ((rd_T80 l1 a2).f1), .int .i64 ((rd_T80 l1 a2).f2)]] (by rfl) rfl rfl (by (try simp only [List.map_toArray, List.map_cons, List.map_nil]); first | done | rfl | (simp only [List.length_drop, List.length_take]; rfl)) ?_
            refine (spec_l07With.calls 0 0 _ _ ([] : List Int) ((rd_T80 l1 a2).f0) ((rd_T80 l1 a2).f1) ((rd_T80 l1 a2).f2) t590 t591 t592 _ ?side1 ?side2 A10.out).mono ?_
            (case side1 => exact Kd.C_nil _ _)
            (case side2 => exact Nat.le_refl _)
            rintro e w18 ⟨v593, rfl, ho0, hb⟩
            refine ⟨_, rfl, ?_⟩
            have n0_ := Aside0.mk (Kd.V_elder' (by (with_reducible repeat (first | apply Kd.V_alloc | apply Kd.V_drewN | apply Kd.V_drew)); exact HO3.out) (Kd.R_base ho0) hb)
            have n1_ := Aside0.mk (Kd.N_elder' (by (with_reducible repeat (first | apply Kd.N_alloc | apply Kd.N_drewN | apply Kd.N_drew)); exact HO588.out) (Kd.R_base ho0) hb)
            have n2_ := Aside0.mk (Kd.R_lower (Kd.R_newM (M := fun k_ => (w.heap.size ≤ k_)) ho0 (below_size (by repeat (first | (with_reducible first | exact HB.out | apply below_alloc | apply pw_below_drewN | apply below_drew1 | refine below_set ?_ GE582.out) | exact HB.out))) (fun k_ h_ => h_)) (below_size (by repeat (first | (with_reducible first | exact HB.out | apply below_alloc | apply pw_below_drewN | apply below_drew1 | refine below_set ?_ GE582.out) | exact HB.out))))
            have n3_ := Aside0.mk (blk_below (g := gb582) (o := .cells #[.int .i64 a0_0, .int .i64 a0_1] 49 (0, 0)) (by (with_reducible repeat (first | refine blk_drewN ?_ _ | refine blk_drew ?_ | refine blk_alloc ?_ _)); exact BK582.out) hb)
            have n4_ := Aside0.mk (below_step (by repeat (first | (with_reducible first | exact HB.out | apply below_alloc | apply pw_below_drewN | apply below_drew1 | refine below_set ?_ GE582.out) | exact HB.out)) hb)
            clear HO3
            clear HO588
            clear BK582
            clear HB
            have HO3 := n0_
            have HO588 := n1_
            have HO594 := n2_
            have BK582 := n3_
            have HB := n4_
            clear n0_ n1_ n2_ n3_ n4_
            (try clear hb)
            (try clear hb2)
            (try clear hk)
            (try clear hi)
            (try clear ho0)
            obtain ⟨Ao20, co20, eo20⟩ := Kd.R_slice HO594.out
            (first | subst eo20 | (injection eo20 with f1_ f2_ f3_; have f4_ := f1_.symm; have f5_ := f3_.symm; clear f1_ f2_ f3_; subst f4_; subst f5_))
            refine hK.out _ _ ⟨(blk_cell BK582.out 0).trans rfl, (blk_cell BK582.out 1).trans rfl, ((HB.out.cell (World.block_lt_of_cell? w _ hw589_0)).trans hw589_0), ((HB.out.cell (World.block_lt_of_cell? w _ hw589_1)).trans hw589_1), ((HB.out.cell (World.block_lt_of_cell? w _ hw589_2)).trans hw589_2)⟩ (fun hHeld => ?_)
            clear hK K
            refine norm_ (a' := ?_) ?_ ?_
            rotate_left
            · show Act.put _ (some 30) _ = _
              simp only [Act.put, List.setIfInBounds_toArray, List.set_cons_zero, List.set_cons_succ, i64_w, i32_w]
              rfl
            refine one_ (i := 13) (N := some 31) #[true, true, true, true, true, true, true, true, true, true, true, true, true, true, false, false, false] rfl rfl (one_of HT_.out (by kernel_rfl)) (by decide) (fun K hK => ?_)
            refine value_ (w1 := ?_) (v := ?_) (by rfl) rfl ?_ ?_
            rotate_left 2
            · go_simp
              constructor
              · rfl
              · rfl
            refine hK.out _ _ ⟨(blk_cell (blk_alloc BK582.out _) 0).trans rfl, (blk_cell (blk_alloc BK582.out _) 1).trans rfl, (World.cell?_alloc_lt _ _ _ (World.block_lt_of_cell? _ _ (((HB.out.cell (World.block_lt_of_cell? w _ hw589_0)).trans hw589_0)))).trans (((HB.out.cell (World.block_lt_of_cell? w _ hw589_0)).trans hw589_0)), (World.cell?_alloc_lt _ _ _ (World.block_lt_of_cell? _ _ (((HB.out.cell (World.block_lt_of_cell? w _ hw589_1)).trans hw589_1)))).trans (((HB.out.cell (World.block_lt_of_cell? w _ hw589_1)).trans hw589_1)), (World.cell?_alloc_lt _ _ _ (World.block_lt_of_cell? _ _ (((HB.out.cell (World.block_lt_of_cell? w _ hw589_2)).trans hw589_2)))).trans (((HB.out.cell (World.block_lt_of_cell? w _ hw589_2)).trans hw589_2))⟩ (fun hHeld => ?_)
            clear hK K
            refine norm_ (a' := ?_) ?_ ?_
            rotate_left
            · show Act.put _ (some 31) _ = _
              simp only [Act.put, List.setIfInBounds_toArray, List.set_cons_zero, List.set_cons_succ, i64_w, i32_w]
              rfl
            refine one_ (i := 14) (N := some 32) #[true, true, true, true, true, true, true, true, true, true, true, true, true, true, true, false, false] rfl rfl (one_of HT_.out (by kernel_rfl)) (by decide) (fun K hK => ?_)
            refine Kd.N_append_step k62 (w0 := w) w.heap.size (by rfl) (.tmp 24) (.tmp 31) 52 62 (.agg #[(.int .i64 0), (.int .i64 0), (.slice none 0 0)]) 40 rfl Try.underlying52 info62 rfl (by decide) (by omega) v587 y586 (⟨t590, t591, t592⟩ : S62) [.int .i64 t590, .int .i64 t591, .slice Ao20 t592.length co20] (fun k_ => (P3_ k_ ∨ w.heap.size ≤ k_) ∧ k_ ≠ gb582) (fun k_ => ((fun k_ => (P3_ k_ ∨ w.heap.size ≤ k_) ∧ k_ ≠ gb582)) k_ ∧ some k_ ≠ (v587 : Value).ownBlock) rfl rfl ?aP (fun _ hk => hk) ?aF ?aO ?aB ?aS ?aL ?_
            (case aP => exact (k62_mkF _ _ (⟨t590, t591, t592⟩ : S62) (Kd.R_reads' (Kd.R_mono (ok' := (fun k_ => ((fun k_ => (P3_ k_ ∨ w.heap.size ≤ k_) ∧ k_ ≠ gb582)) k_ ∧ some k_ ≠ (v587 : Value).ownBlock)) (Kd.R_types (Kd.R_apart' (HO594.out) (Kd.N_typed HO588.out) (by decide)) BK582.out (by decide)) (fun k_ hk => ⟨⟨(.inr (hk.1.1.1)), hk.2⟩, hk.1.2⟩))).2.1 (Kd.R_F (Kd.R_mono (ok' := (fun k_ => ((fun k_ => (P3_ k_ ∨ w.heap.size ≤ k_) ∧ k_ ≠ gb582)) k_ ∧ some k_ ≠ (v587 : Value).ownBlock)) (Kd.R_types (Kd.R_apart' (HO594.out) (Kd.N_typed HO588.out) (by decide)) BK582.out (by decide)) (fun k_ hk => ⟨⟨(.inr (hk.1.1.1)), hk.2⟩, hk.1.2⟩)))))
            (case aB => exact (by repeat (first | (with_reducible first | exact HB.out | apply below_alloc | apply pw_below_drewN | apply below_drew1 | refine below_set ?_ GE582.out) | exact HB.out)))
            (case aF => exact (fun k_ hk => ⟨(.inr (Nat.le_trans (below_size (by repeat (first | (with_reducible first | exact HB.out | apply below_alloc | apply pw_below_drewN | apply below_drew1 | refine below_set ?_ GE582.out) | exact HB.out))) hk)), Kd.freshB (g := gb582) (o := .cells #[.int .i64 a0_0, .int .i64 a0_1] 49 (0, 0)) (by (with_reducible repeat (first | refine blk_drewN ?_ _ | refine blk_drew ?_ | refine blk_alloc ?_ _)); exact BK582.out) k_ hk⟩))
            (case aO => exact (by (with_reducible repeat (first | apply Kd.N_alloc | apply Kd.N_drewN | apply Kd.N_drew)); exact Kd.N_mono HO588.out (fun _ hk => ⟨hk.1.1, hk.1.2⟩)))
            (case aS => exact (below_size (by repeat (first | (with_reducible first | exact HB.out | apply below_alloc | apply pw_below_drewN | apply below_drew1 | refine below_set ?_ GE582.out) | exact HB.out))))
            (case aL => have := LMc11.out; omega)
            intro v596 w19 ho hb hg hat
            rw [← Ny595.out] at ho
            have n0_ := Aside0.mk (Kd.V_afterv (ok := (fun k_ => (P3_ k_ ∨ w.heap.size ≤ k_) ∧ some k_ ≠ (.slice Ao20 t592.length co20 : Value).ownBlock ∧ k_ ≠ gb582)) (by (with_reducible repeat (first | apply Kd.V_alloc | apply Kd.V_drewN | apply Kd.V_drew)); exact Kd.V_mono HO3.out (fun _ hk => ⟨⟨hk.1.1.1, ⟨hk.2, hk.1.1.2⟩⟩, hk.1.2⟩)) hg hat)
            have n1_ := Aside0.mk (blk_grown (g := gb582) (o := .cells #[.int .i64 a0_0, .int .i64 a0_1] 49 (0, 0)) (by (with_reducible repeat (first | refine blk_drewN ?_ _ | refine blk_drew ?_ | refine blk_alloc ?_ _)); exact BK582.out) hg (Kd.N_ne HO588.out BK582.out (by decide)))
            have n2_ := Aside0.mk (hb)
            have n3_ := Aside0.mk (ho)
            clear HO3
            clear BK582
            clear HB
            clear HO588
            clear HO594
            have HO3 := n0_
            have BK582 := n1_
            have HB := n2_
            have HO597 := n3_
            clear n0_ n1_ n2_ n3_
            clear ho hb hg hat
            obtain ⟨Ao21, co21, eo21⟩ := Kd.N_slice HO597.out
            (first | subst eo21 | (injection eo21 with f1_ f2_ f3_; have f4_ := f1_.symm; have f5_ := f3_.symm; clear f1_ f2_ f3_; subst f4_; subst f5_))
            refine hK.out _ _ ⟨(blk_cell BK582.out 0).trans rfl, (blk_cell BK582.out 1).trans rfl, ((HB.out.cell (World.block_lt_of_cell? w _ hw589_0)).trans hw589_0), ((HB.out.cell (World.block_lt_of_cell? w _ hw589_1)).trans hw589_1), ((HB.out.cell (World.block_lt_of_cell? w _ hw589_2)).trans hw589_2)⟩ (fun hHeld => ?_)
            clear hK K
            refine norm_ (a' := ?_) ?_ ?_
            rotate_left
            · show Act.put _ (some 32) _ = _
              simp only [Act.put, List.setIfInBounds_toArray, List.set_cons_zero, List.set_cons_succ, i64_w, i32_w]
              rfl
            refine one_ (i := 15) (N := some 33) #[true, true, true, true, true, true, true, true, true, true, true, true, true, true, true, true, false] rfl rfl (one_of HT_.out (by kernel_rfl)) (by decide) (fun K hK => ?_)
            refine goes_ Try.func72 (by kernel_rfl) rfl #[.agg #[.int .i64 a0_0, .int .i64 a0_1], .slice (some ad589) l1.length c1, .int .i64 (wrap64 (a2 + 1)), .slice Ao21 y595.length co21] (by rfl) rfl rfl (by (try simp only [List.map_toArray, List.map_cons, List.map_nil]); first | done | rfl | (simp only [List.length_drop, List.length_take]; rfl)) ?_
            with_reducible refine (ih k (by omega) a0_0 a0_1 _ _ l1 (wrap64 (a2 + 1)) (fun k_ => ((P3_ k_ ∨ w.heap.size ≤ k_) ∧ k_ ≠ gb582)) _ _ y595 t598 _ ?side1 ?side2 ?side3 A12.out).mono ?_
            (case side1 => repeat (first | exact (Kd.C_below HR1.out HB.out) | (with_reducible refine Kd.C_alloc ?_ _) | (with_reducible refine Kd.C_drewN ?_ _) | (with_reducible refine Kd.C_drew ?_)))
            (case side2 => exact HC1.out)
            (case side3 => exact Kd.N_V (HO597.out))
            rintro e w22 ⟨rfl, hb⟩
            refine ⟨_, rfl, ?_⟩
            have n0_ := Aside0.mk (Kd.V_below (by (with_reducible repeat (first | apply Kd.V_alloc | apply Kd.V_drewN | apply Kd.V_drew)); exact HO3.out) hb)
            have n1_ := Aside0.mk (Kd.N_below (by (with_reducible repeat (first | apply Kd.N_alloc | apply Kd.N_drewN | apply Kd.N_drew)); exact HO597.out) hb)
            have n2_ := Aside0.mk (blk_below (g := gb582) (o := .cells #[.int .i64 a0_0, .int .i64 a0_1] 49 (0, 0)) (by (with_reducible repeat (first | refine blk_drewN ?_ _ | refine blk_drew ?_ | refine blk_alloc ?_ _)); exact BK582.out) hb)
            have n3_ := Aside0.mk (below_step (by repeat (first | (with_reducible first | exact HB.out | apply below_alloc | apply pw_below_drewN | apply below_drew1 | refine below_set ?_ GE582.out) | exact HB.out)) hb)
            clear HO3
            clear HO597
            clear BK582
            clear HB
            have HO3 := n0_
            have HO597 := n1_
            have BK582 := n2_
            have HB := n3_
            clear n0_ n1_ n2_ n3_
            (try clear hb)
            (try clear hb2)
            (try clear hk)
            (try clear hi)
            refine hK.out _ _ ⟨(blk_cell BK582.out 0).trans rfl, (blk_cell BK582.out 1).trans rfl, ((HB.out.cell (World.block_lt_of_cell? w _ hw589_0)).trans hw589_0), ((HB.out.cell (World.block_lt_of_cell? w _ hw589_1)).trans hw589_1), ((HB.out.cell (World.block_lt_of_cell? w _ hw589_2)).trans hw589_2)⟩ (fun hHeld => ?_)
            clear hK K
            refine norm_ (a' := ?_) ?_ ?_
            rotate_left
            · show Act.put _ (some 33) _ = _
              simp only [Act.put, List.setIfInBounds_toArray, List.set_cons_zero, List.set_cons_succ, i64_w, i32_w]
              rfl
            refine pure_ (i := 16) (N := some 9) (v := ?_) (a' := ?_) #[true, true, true, true, true, true, true, true, true, true, true, true, true, true, true, true, true] rfl rfl (any_of HT_.out (by kernel_rfl)) (fun _ _ _ h => h) (Or.inl ⟨by rfl, ?_⟩) ?_ ?_
            rotate_left
            · intro w'
              go_simp
              with_reducible rfl
            rotate_left
            · simp only [Act.put, List.setIfInBounds_toArray, List.set_cons_zero, List.set_cons_succ, i64_w, i32_w]
              rfl
            refine done_ (done_of HT_.out (by kernel_rfl)) ?_
            try go_wp2
            go_loopg [9, 10] k (fun kq v9 v10 w' => ∃ (x3_1 : List (S62)) (x9_1 : Int) (x10_1 : Int), v9 = .int .i64 x9_1 ∧ v10 = .int .i64 x10_1 ∧ Aside0 (spec_l07Few.l0 kq l1 a2 x3_1 x9_1 x10_1 a0_0 a0_1 = some r) ∧ Aside0 (kq ≤ k) ∧ Aside0 (Kd.V k62 62 w' w.heap.size (fun k_ => (P3_ k_ ∨ w.heap.size ≤ k_) ∧ k_ ≠ gb582) (.slice A3 l3.length c3) x3_1) ∧ Aside0 (w'.heap[gb582]? = some (.cells #[.int .i64 a0_0, .int .i64 a0_1] 49 (0, 0))) ∧ Aside0 (Below w.heap.size w w'))
            case atStart => exact ⟨(l3), (t598), (0), (by first | rfl | (simp; done) | (simp [*]; done)), (by first | rfl | (simp; done) | (simp [*]; done)), H', ⟨Nat.le_refl _⟩, ⟨by (with_reducible repeat (first | apply Kd.V_alloc | apply Kd.V_drewN | apply Kd.V_drew)); exact Kd.V_mono HO3.out (fun _ hk => ⟨hk.1.1, hk.1.2.2⟩)⟩, ⟨by (with_reducible repeat (first | refine blk_drewN ?_ _ | refine blk_drew ?_ | refine blk_alloc ?_ _)); exact BK582.out⟩, ⟨by repeat (first | (with_reducible first | exact HB.out | apply below_alloc | apply pw_below_drewN | apply below_drew1 | refine below_set ?_ GE582.out) | exact HB.out)⟩⟩
            case round =>
              clear H'
              try clear c1
              try clear p2
              try clear c3
              try clear c5
              try clear c5b0
              try clear p5
              try clear q5
              try clear hx5
              try clear p6
              try clear c7
              try clear c8
              try clear c8b0
              try clear c9
              try clear c9b0
              try clear c11
              try clear hx589_0
              try clear hx589_1
              try clear hx589_2
              try clear p589
              try clear q589
              obtain ⟨x3_1, x9_1, x10_1, rfl, rfl, HA, HK1, HO_3, BK582, HB⟩ := hrel
              have hl3_1 := (Kd.V_reads' HO_3.out).1
              rw [hl3_1] at HO_3
              (try simp only [hl3_1])
              (try simp only [hl3_1] at BK582)
              cases gk with
              | zero => exact absurd HA.out (by simp [spec_l07Few.l0])
              | succ k1 =>
                have H := HA.out
                clear HA
                simp only [spec_l07Few.l0] at H
                by_cases c23 : x10_1 < (x3_1.length : Int)
                · rw [if_pos c23] at H
                  have c23b0 : decide (x10_1 < (x3_1.length : Int)) = true := decide_eq_true c23
                  clear c23
                  by_cases c24 : 0 ≤ x10_1
                  · rw [if_pos c24] at H
                    have c24b0 : decide (0 ≤ x10_1) = true := decide_eq_true c24
                    clear c24
                    by_cases c25 : 0 ≤ a2
                    · rw [if_pos c25] at H
                      have c25b0 : decide (0 ≤ a2) = true := decide_eq_true c25
                      clear c25
                      by_cases c26 : a2 < (l1.length : Int)
                      · rw [if_pos c26] at H
                        have c26b0 : decide (a2 < (l1.length : Int)) = true := decide_eq_true c26
                        clear c26
                        replace H := Option.bind_eq_some_iff.mp H
                        obtain ⟨t601, A270, H⟩ := H
                        replace H : (if t601 = true then ((some (([] : List (S62)) : List (S62))).bind fun y602 => (if y602.length + x3_1.length < 3518437208883 then ((some (y602 ++ x3_1 : List (S62))).bind fun y605 => ((spec_l07With.f ((rd_T62 x3_1 x10_1).f0) ((rd_T62 x3_1 x10_1).f1) ((rd_T62 x3_1 x10_1).f2) ((rd_T80 l1 a2).f0) ((rd_T80 l1 a2).f1) ((rd_T80 l1 a2).f2)).bind fun bt610 => (if x10_1 < (y605.length : Int) then ((spec_l07Few.f k1 a0_0 a0_1 l1 (wrap64 (a2 + 1)) (y605.set (x10_1 : Int).toNat (⟨bt610.1, bt610.2.1, bt610.2.2⟩ : S62))).bind fun t616 => (spec_l07Few.l0 k1 l1 a2 x3_1 (mn x9_1 t616) (wrap64 (x10_1 + 1)) a0_0 a0_1)) else (none)))) else (none))) else (spec_l07Few.l0 k1 l1 a2 x3_1 x9_1 (wrap64 (x10_1 + 1)) a0_0 a0_1)) = some r := H
                        have A27 := Aside0.mk A270
                        clear A270
                        by_cases c28 : t601 = true
                        · subst c28
                          have H1 : ((some (([] : List (S62)) : List (S62))).bind fun y602 => (if y602.length + x3_1.length < 3518437208883 then ((some (y602 ++ x3_1 : List (S62))).bind fun y605 => ((spec_l07With.f ((rd_T62 x3_1 x10_1).f0) ((rd_T62 x3_1 x10_1).f1) ((rd_T62 x3_1 x10_1).f2) ((rd_T80 l1 a2).f0) ((rd_T80 l1 a2).f1) ((rd_T80 l1 a2).f2)).bind fun bt610 => (if x10_1 < (y605.length : Int) then ((spec_l07Few.f k1 a0_0 a0_1 l1 (wrap64 (a2 + 1)) (y605.set (x10_1 : Int).toNat (⟨bt610.1, bt610.2.1, bt610.2.2⟩ : S62))).bind fun t616 => (spec_l07Few.l0 k1 l1 a2 x3_1 (mn x9_1 t616) (wrap64 (x10_1 + 1)) a0_0 a0_1)) else (none)))) else (none))) = some r := by rw [if_pos rfl] at H; exact H
                          clear H
                          have H := H1
                          clear H1
                          obtain ⟨y602, hy602⟩ : ∃ y_ : List (S62), y_ = (([] : List (S62))) := ⟨_, rfl⟩
                          replace H : (if y602.length + x3_1.length < 3518437208883 then ((some (y602 ++ x3_1 : List (S62))).bind fun y605 => ((spec_l07With.f ((rd_T62 x3_1 x10_1).f0) ((rd_T62 x3_1 x10_1).f1) ((rd_T62 x3_1 x10_1).f2) ((rd_T80 l1 a2).f0) ((rd_T80 l1 a2).f1) ((rd_T80 l1 a2).f2)).bind fun bt610 => (if x10_1 < (y605.length : Int) then ((spec_l07Few.f k1 a0_0 a0_1 l1 (wrap64 (a2 + 1)) (y605.set (x10_1 : Int).toNat (⟨bt610.1, bt610.2.1, bt610.2.2⟩ : S62))).bind fun t616 => (spec_l07Few.l0 k1 l1 a2 x3_1 (mn x9_1 t616) (wrap64 (x10_1 + 1)) a0_0 a0_1)) else (none)))) else (none)) = some r := by first | (rw [hy602]; with_reducible exact H) | (have H2_ := (Option.bind_some _ _).symm.trans H; rw [hy602]; with_reducible exact H2_) | (have H2_ := (Option.bind_some _ _).symm.trans H; with_reducible exact H2_) | with_reducible exact H | (rw [hy602]; exact H) | exact H
                          have Ny602 := Aside0.mk hy602
                          clear hy602
                          by_cases c29 : y602.length + x3_1.length < 3518437208883
                          · rw [if_pos c29] at H
                            have LMc29 := Aside0.mk c29
                            clear c29
                            obtain ⟨y605, hy605⟩ : ∃ y_ : List (S62), y_ = (y602 ++ x3_1) := ⟨_, rfl⟩
                            replace H : ((spec_l07With.f ((rd_T62 x3_1 x10_1).f0) ((rd_T62 x3_1 x10_1).f1) ((rd_T62 x3_1 x10_1).f2) ((rd_T80 l1 a2).f0) ((rd_T80 l1 a2).f1) ((rd_T80 l1 a2).f2)).bind fun bt610 => (if x10_1 < (y605.length : Int) then ((spec_l07Few.f k1 a0_0 a0_1 l1 (wrap64 (a2 + 1)) (y605.set (x10_1 : Int).toNat (⟨bt610.1, bt610.2.1, bt610.2.2⟩ : S62))).bind fun t616 => (spec_l07Few.l0 k1 l1 a2 x3_1 (mn x9_1 t616) (wrap64 (x10_1 + 1)) a0_0 a0_1)) else (none))) = some r := by first | (rw [hy605]; with_reducible exact H) | (have H2_ := (Option.bind_some _ _).symm.trans H; rw [hy605]; with_reducible exact H2_) | (have H2_ := (Option.bind_some _ _).symm.trans H; with_reducible exact H2_) | with_reducible exact H | (rw [hy605]; exact H) | exact H
                            have Ny605 := Aside0.mk hy605
                            clear hy605
                            replace H := Option.bind_eq_some_iff.mp H
                            obtain ⟨⟨t610, t611, t612⟩, A300, H⟩ := H
                            replace H : (if x10_1 < (y605.length : Int) then ((spec_l07Few.f k1 a0_0 a0_1 l1 (wrap64 (a2 + 1)) (y605.set (x10_1 : Int).toNat (⟨t610, t611, t612⟩ : S62))).bind fun t616 => (spec_l07Few.l0 k1 l1 a2 x3_1 (mn x9_1 t616) (wrap64 (x10_1 + 1)) a0_0 a0_1)) else (none)) = some r := H
                            have A30 := Aside0.mk A300
                            clear A300
                            by_cases c31 : x10_1 < (y605.length : Int)
                            · rw [if_pos c31] at H
                              have c31b0 : decide (x10_1 < (y605.length : Int)) = true := decide_eq_true c31
                              clear c31
                              obtain ⟨y615, hy615⟩ : ∃ y_ : List (S62), y_ = (y605.set (x10_1 : Int).toNat (⟨t610, t611, t612⟩ : S62)) := ⟨_, rfl⟩
                              replace H : ((spec_l07Few.f k1 a0_0 a0_1 l1 (wrap64 (a2 + 1)) y615).bind fun t616 => (spec_l07Few.l0 k1 l1 a2 x3_1 (mn x9_1 t616) (wrap64 (x10_1 + 1)) a0_0 a0_1)) = some r := by first | (rw [hy615]; with_reducible exact H) | (have H2_ := (Option.bind_some _ _).symm.trans H; rw [hy615]; with_reducible exact H2_) | (have H2_ := (Option.bind_some _ _).symm.trans H; with_reducible exact H2_) | with_reducible exact H | (rw [hy615]; exact H) | exact H
                              have Ny615 := Aside0.mk hy615
                              clear hy615
                              replace H := Option.bind_eq_some_iff.mp H
                              obtain ⟨t616, A330, H⟩ := H
                              replace H : (spec_l07Few.l0 k1 l1 a2 x3_1 (mn x9_1 t616) (wrap64 (x10_1 + 1)) a0_0 a0_1) = some r := H
                              have A33 := Aside0.mk A330
                              clear A330
                              obtain ⟨ji34, hji34⟩ : ∃ j_ : Int, (mn x9_1 t616) = j_ := ⟨_, rfl⟩
                              replace H : (spec_l07Few.l0 k1 l1 a2 x3_1 ji34 (wrap64 (x10_1 + 1)) a0_0 a0_1) = some r := by first | (rw [hji34] at H; exact H) | (simp only [hji34] at H ⊢; exact H)
                              (try rw [hji34] at A27)
                              (try rw [hji34] at A30)
                              (try rw [hji34] at A33)
                              have hji34_ : (if t616 < x9_1 then t616 else x9_1) = ji34 := hji34
                              have H' := Aside0.mk H
                              clear H
                              try go_wp2
                              have n0_ := Aside0.mk (Kd.V_drew HO_3.out)
                              have n1_ := Aside0.mk (blk_drew BK582.out)
                              have n2_ := Aside0.mk (below_drew1 HB.out)
                              clear HO_3
                              clear BK582
                              clear HB
                              have HO_3 := n0_
                              have BK582 := n1_
                              have HB := n2_
                              clear n0_ n1_ n2_
                              have p599 : 0 ≤ (x10_1 : Int) := of_decide_eq_true (by first | (with_reducible assumption) | assumption)
                              have q599 : x10_1 < (x3_1.length : Int) := of_decide_eq_true (by first | (with_reducible assumption) | assumption)
                              obtain ⟨ad599, A599_2, c599_2, e599, hx599_0, hx599_1, hx599_2, hl599_2, hi599_2⟩ := at_T62 (Kd.V_reads' HO_3.out).2.2 x10_1 p599 q599
                              cases e599
                              obtain ⟨ce599, hce599, hMe599, hcc599⟩ := Kd.V_get HO_3.out z62 x10_1 p599 (by first | exact q599 | exact of_decide_eq_true (by first | (with_reducible assumption) | assumption) | (have e_ := (Kd.V_reads' HO_3.out).1; omega))
                              obtain ⟨ua599_2, uc599_2, rfl, ul599_2, ge599_2⟩ := k62_openF hMe599
                              have hv599_2 := hcc599 2 _ rfl
                              rw [add_field _ _ 2 (by omega)] at hv599_2
                              replace hv599_2 := Option.some.inj (hv599_2.symm.trans hx599_2)
                              injection hv599_2 with hva_ hvn_ hvc_
                              rw [hva_] at ge599_2
                              rw [hvc_] at ul599_2
                              have HL599_2 := Aside0.mk (show Kd.V (Kd.int .i64) 3 _ w.heap.size _ _ ((rd_T62 x3_1 x10_1).f2) from Kd.V_mk ul599_2 ge599_2)
                              clear hva_ hvn_ hvc_ ge599_2 ul599_2
                              clear hcc599 hce599
                              have HR599_2 := Aside0.mk hi599_2
                              have HC599_2 := Aside0.mk hl599_2
                              clear hi599_2 hl599_2
                              replace p599 := eq_true p599
                              replace q599 := eq_true q599
                              have p600 : 0 ≤ (a2 : Int) := of_decide_eq_true (by first | (with_reducible assumption) | assumption)
                              have q600 : a2 < (l1.length : Int) := of_decide_eq_true (by first | (with_reducible assumption) | assumption)
                              obtain ⟨ad600, e600, hx600_0, hx600_1, hx600_2⟩ := at_T80 HR1.out a2 p600 q600
                              have hw600_2 := hx600_2
                              have hw600_1 := hx600_1
                              have hw600_0 := hx600_0
                              obtain rfl : ad589 = ad600 := (by injection e600)
                              replace hx600_0 := (HB.out.cell (World.block_lt_of_cell? w _ hx600_0)).trans hx600_0
                              replace hx600_1 := (HB.out.cell (World.block_lt_of_cell? w _ hx600_1)).trans hx600_1
                              replace hx600_2 := (HB.out.cell (World.block_lt_of_cell? w _ hx600_2)).trans hx600_2
                              replace p600 := eq_true p600
                              replace q600 := eq_true q600
                              refine start_ (n := 10) (S := fun w' => w'.cell? ⟨gb582, 0, none⟩ = some (.int .i64 a0_0) ∧ w'.cell? ⟨gb582, 1, none⟩ = some (.int .i64 a0_1) ∧ w'.cell? (ad599.add ((x10_1).toNat * 3)) = some (.int .i64 ((rd_T62 x3_1 x10_1).f0)) ∧ w'.cell? ⟨(ad599.add ((x10_1).toNat * 3)).block, (ad599.add ((x10_1).toNat * 3)).off + 1, none⟩ = some (.int .i64 ((rd_T62 x3_1 x10_1).f1)) ∧ w'.cell? ⟨(ad599.add ((x10_1).toNat * 3)).block, (ad599.add ((x10_1).toNat * 3)).off + 2, none⟩ = some (.slice A599_2 ((rd_T62 x3_1 x10_1).f2).length c599_2) ∧ w'.cell? (ad589.add ((a2).toNat * 3)) = some (.int .i64 ((rd_T80 l1 a2).f0)) ∧ w'.cell? ⟨(ad589.add ((a2).toNat * 3)).block, (ad589.add ((a2).toNat * 3)).off + 1, none⟩ = some (.int .i64 ((rd_T80 l1 a2).f1)) ∧ w'.cell? ⟨(ad589.add ((a2).toNat * 3)).block, (ad589.add ((a2).toNat * 3)).off + 2, none⟩ = some (.int .i64 ((rd_T80 l1 a2).f2))) (ds := []) #[false, false, false, false, false, false, false, false, false, false] (by kernel_rfl) rfl rfl ⟨(blk_cell BK582.out 0).trans rfl, (blk_cell BK582.out 1).trans rfl, hx599_0, hx599_1, hx599_2, ((HB.out.cell (World.block_lt_of_cell? w _ hw600_0)).trans hw600_0), ((HB.out.cell (World.block_lt_of_cell? w _ hw600_1)).trans hw600_1), ((HB.out.cell (World.block_lt_of_cell? w _ hw600_2)).trans hw600_2)⟩ (fun hHeld => ?_); refine with_tabW spec_l07Few.tab7 spec_l07Few.bits7 (fun HT_ HW_ => ?_)
                              generalize wr.drew = w35 at HO_3 BK582 HB HL599_2 HR599_2 hx599_0 hx599_1 hx599_2 hx600_0 hx600_1 hx600_2 hHeld ⊢
                              refine pure_ (i := 1) (N := some 41) (v := ?_) (a' := ?_) #[false, true, false, false, false, false, false, false, false, false] rfl rfl (any_of HT_.out (by kernel_rfl)) (fun _ _ _ h => h) (Or.inl ⟨by rfl, ?_⟩) ?_ ?_
                              rotate_left
                              · intro w'
                                go_simp
                                with_reducible rfl
                              rotate_left
                              · simp only [Act.put, List.setIfInBounds_toArray, List.set_cons_zero, List.set_cons_succ, i64_w, i32_w]
                                rfl
                              refine pure_ (i := 2) (N := some 42) (v := ?_) (a' := ?_) #[false, true, true, false, false, false, false, false, false, false] rfl rfl (any_of HT_.out (by kernel_rfl)) (fun _ _ _ h => h) (Or.inl ⟨by rfl, ?_⟩) ?_ ?_
                              rotate_left
                              · intro w'
                                go_simp
                                with_reducible rfl
                              rotate_left
                              · simp only [Act.put, List.setIfInBounds_toArray, List.set_cons_zero, List.set_cons_succ, i64_w, i32_w]
                                rfl
                              refine pure_ (i := 3) (N := some 43) (v := ?_) (a' := ?_) #[false, true, true, true, false, false, false, false, false, false] rfl rfl (any_of HT_.out (by kernel_rfl)) (fun _ _ _ h => h) (Or.inl ⟨by rfl, ?_⟩) ?_ ?_
                              rotate_left
                              · intro w'
                                go_simp
                                with_reducible rfl
                              rotate_left
                              · simp only [Act.put, List.setIfInBounds_toArray, List.set_cons_zero, List.set_cons_succ, i64_w, i32_w]
                                rfl
                              refine pure_ (i := 5) (N := some 45) (v := ?_) (a' := ?_) #[false, true, true, true, false, true, false, false, false, false] rfl rfl (any_of HT_.out (by kernel_rfl)) (fun _ _ _ h => h) (Or.inl ⟨by rfl, ?_⟩) ?_ ?_
                              rotate_left
                              · intro w'
                                go_simp
                                with_reducible rfl
                              rotate_left
                              · simp only [Act.put, List.setIfInBounds_toArray, List.set_cons_zero, List.set_cons_succ, i64_w, i32_w]
                                rfl
                              refine pure_ (i := 6) (N := some 46) (v := ?_) (a' := ?_) #[false, true, true, true, false, true, true, false, false, false] rfl rfl (any_of HT_.out (by kernel_rfl)) (fun _ _ _ h => h) (Or.inl ⟨by rfl, ?_⟩) ?_ ?_
                              rotate_left
                              · intro w'
                                go_simp
                                with_reducible rfl
                              rotate_left
                              · simp only [Act.put, List.setIfInBounds_toArray, List.set_cons_zero, List.set_cons_succ, i64_w, i32_w]
                                rfl
                              refine pure_ (i := 7) (N := some 47) (v := ?_) (a' := ?_) #[false, true, true, true, false, true, true, true, false, false] rfl rfl (any_of HT_.out (by kernel_rfl)) (fun _ _ _ h => h) (Or.inl ⟨by rfl, ?_⟩) ?_ ?_
                              rotate_left
                              · intro w'
                                go_simp
                                with_reducible rfl
                              rotate_left
                              · simp only [Act.put, List.setIfInBounds_toArray, List.set_cons_zero, List.set_cons_succ, i64_w, i32_w]
                                rfl
                              refine take_ (i := 0) (N := some 40) (v := ?_) (a' := ?_) #[true, true, true, true, false, true, true, true, false, false] rfl rfl (take_ofW HT_.out HW_.out (by kernel_rfl)) (fun _ _ _ h => h) (Or.inl ⟨by rfl, ?_⟩) hHeld ?_ ?_
                              rotate_left
                              · rintro w' ⟨s0, s1, s2, s3, s4, s5, s6, s7⟩
                                go_simp
                                with_reducible rfl
                              rotate_left
                              · simp only [Act.put, List.setIfInBounds_toArray, List.set_cons_zero, List.set_cons_succ, i64_w, i32_w]
                                rfl
                              refine take_ (i := 4) (N := some 44) (v := ?_) (a' := ?_) #[true, true, true, true, true, true, true, true, false, false] rfl rfl (take_ofW HT_.out HW_.out (by kernel_rfl)) (fun _ _ _ h => h) (Or.inl ⟨by rfl, ?_⟩) hHeld ?_ ?_
                              rotate_left
                              · rintro w' ⟨s0, s1, s2, s3, s4, s5, s6, s7⟩
                                go_simp
                                with_reducible rfl
                              rotate_left
                              · simp only [Act.put, List.setIfInBounds_toArray, List.set_cons_zero, List.set_cons_succ, i64_w, i32_w]
                                rfl
                              refine take_ (i := 8) (N := some 48) (v := ?_) (a' := ?_) #[true, true, true, true, true, true, true, true, true, false] rfl rfl (take_ofW HT_.out HW_.out (by kernel_rfl)) (fun _ _ _ h => h) (Or.inl ⟨by rfl, ?_⟩) hHeld ?_ ?_
                              rotate_left
                              · rintro w' ⟨s0, s1, s2, s3, s4, s5, s6, s7⟩
                                go_simp
                                with_reducible rfl
                              rotate_left
                              · simp only [Act.put, List.setIfInBounds_toArray, List.set_cons_zero, List.set_cons_succ, i64_w, i32_w]
                                rfl
                              refine one_ (i := 9) (N := some 49) #[true, true, true, true, true, true, true, true, true, true] rfl rfl (one_of HT_.out (by kernel_rfl)) (by decide) (fun K hK => ?_)
                              refine goes_ Try.func79 (by kernel_rfl) rfl #[.agg #[.int .i64 a0_0, .int .i64 a0_1], .agg #[.int .i64 ((rd_T62 x3_1 x10_1).f0), .int .i64 ((rd_T62 x3_1 x10_1).f1), .slice A599_2 ((rd_T62 x3_1 x10_1).f2).length c599_2], .agg #[.int .i64 ((rd_T80 l1 a2).f0), .int .i64 ((rd_T80 l1 a2).f1), .int .i64 ((rd_T80 l1 a2).f2)]] (by rfl) rfl rfl (by (try simp only [List.map_toArray, List.map_cons, List.map_nil]); first | done | rfl | (simp only [List.length_drop, List.length_take]; rfl)) ?_
                              with_reducible refine (spec_l07Takes.calls a0_0 a0_1 ((rd_T62 x3_1 x10_1).f0) ((rd_T62 x3_1 x10_1).f1) _ _ ((rd_T62 x3_1 x10_1).f2) ((rd_T80 l1 a2).f0) ((rd_T80 l1 a2).f1) ((rd_T80 l1 a2).f2) true _ ?side1 ?side2 A27.out).mono ?_
                              (case side1 => repeat (first | exact (by repeat (first | (with_reducible exact HR599_2.out) | (with_reducible refine Kd.C_alloc ?_ _) | (with_reducible refine Kd.C_drewN ?_ _) | (with_reducible refine Kd.C_drew ?_) | exact HR599_2.out)) | (with_reducible refine Kd.C_alloc ?_ _) | (with_reducible refine Kd.C_drewN ?_ _) | (with_reducible refine Kd.C_drew ?_)))
                              (case side2 => exact HC599_2.out)
                              rintro e w36 ⟨rfl, hb⟩
                              have HS2_ := (hb.cell (World.block_lt_of_cell? _ _ (hHeld.2.2.1))).trans (hHeld.2.2.1)
                              have HS3_ := (hb.cell (World.block_lt_of_cell? _ _ (hHeld.2.2.2.1))).trans (hHeld.2.2.2.1)
                              have HS4_ := (hb.cell (World.block_lt_of_cell? _ _ (hHeld.2.2.2.2.1))).trans (hHeld.2.2.2.2.1)
                              refine ⟨_, rfl, ?_⟩
                              have n0_ := Aside0.mk (Kd.V_below (by (with_reducible repeat (first | apply Kd.V_alloc | apply Kd.V_drewN | apply Kd.V_drew)); exact HO_3.out) hb)
                              have n1_ := Aside0.mk (Kd.V_below (by (with_reducible repeat (first | apply Kd.V_alloc | apply Kd.V_drewN | apply Kd.V_drew)); exact HL599_2.out) hb)
                              have n2_ := Aside0.mk (blk_below (g := gb582) (o := .cells #[.int .i64 a0_0, .int .i64 a0_1] 49 (0, 0)) (by (with_reducible repeat (first | refine blk_drewN ?_ _ | refine blk_drew ?_ | refine blk_alloc ?_ _)); exact BK582.out) hb)
                              have n3_ := Aside0.mk (Kd.C_below (by repeat (first | (with_reducible exact HR599_2.out) | (with_reducible refine Kd.C_alloc ?_ _) | (with_reducible refine Kd.C_drewN ?_ _) | (with_reducible refine Kd.C_drew ?_) | exact HR599_2.out)) hb)
                              have n4_ := Aside0.mk (below_step (by repeat (first | (with_reducible first | exact HB.out | apply below_alloc | apply pw_below_drewN | apply below_drew1 | refine below_set ?_ GE582.out) | exact HB.out)) hb)
                              clear HO_3
                              clear HL599_2
                              clear BK582
                              clear HR599_2
                              clear HB
                              have HO_3 := n0_
                              have HL599_2 := n1_
                              have BK582 := n2_
                              have HR599_2 := n3_
                              have HB := n4_
                              clear n0_ n1_ n2_ n3_ n4_
                              (try clear hb)
                              (try clear hb2)
                              (try clear hk)
                              (try clear hi)
                              refine hK.out _ _ ⟨(blk_cell BK582.out 0).trans rfl, (blk_cell BK582.out 1).trans rfl, HS2_, HS3_, HS4_, ((HB.out.cell (World.block_lt_of_cell? w _ hw600_0)).trans hw600_0), ((HB.out.cell (World.block_lt_of_cell? w _ hw600_1)).trans hw600_1), ((HB.out.cell (World.block_lt_of_cell? w _ hw600_2)).trans hw600_2)⟩ (fun hHeld => ?_)
                              clear hK K
                              refine norm_ (a' := ?_) ?_ ?_
                              rotate_left
                              · show Act.put _ (some 49) _ = _
                                simp only [Act.put, List.setIfInBounds_toArray, List.set_cons_zero, List.set_cons_succ, i64_w, i32_w]
                                rfl
                              refine done_ (done_of HT_.out (by kernel_rfl)) ?_
                              try go_wp2_with (first | ((with_reducible refine gate_dst (N := 50) rfl ?_); refine Kd.N_lit k62 _ 62 ?hg (N' := 50) ?hd (xs := ([] : List (S62))) (inner := []) (ok := (fun k_ => (P3_ k_ ∨ w.heap.size ≤ k_) ∧ k_ ≠ gb582)) (okp := (fun k_ => (P3_ k_ ∨ w.heap.size ≤ k_) ∧ k_ ≠ gb582)) ?hr ?hp (fun _ hk => hk) ((show ∀ k_, w36.heap.size ≤ k_ → (fun k_ => (P3_ k_ ∨ w.heap.size ≤ k_) ∧ k_ ≠ gb582) k_ from fun k_ hk => ⟨(.inr (Nat.le_trans (below_size (by repeat (first | (with_reducible first | exact HB.out | apply below_alloc | apply pw_below_drewN | apply below_drew1 | refine below_set ?_ GE582.out) | exact HB.out))) hk)), Kd.freshB (g := gb582) (o := .cells #[.int .i64 a0_0, .int .i64 a0_1] 49 (0, 0)) (by (with_reducible repeat (first | refine blk_drewN ?_ _ | refine blk_drew ?_ | refine blk_alloc ?_ _)); exact BK582.out) k_ hk⟩) _ (Nat.le_refl _)) (Below.refl _ _) (Nat.le_refl _) (by simp) ?_; (case hd => rfl); (case hg => rfl); (case hr => first | (go_simp; done) | (go_simp; rfl)); (case hp => exact (Reps.none _ _)); intro v603 w37 ho38 hb hg_ hnew_; clear hg_ hnew_; (first | rw [← Ny602.out] at ho38 | (simp only [Int.reduceToNat] at ho38; rw [← Ny602.out] at ho38)); have n0_ := Aside0.mk (Kd.V_elder' (by (with_reducible repeat (first | apply Kd.V_alloc | apply Kd.V_drewN | apply Kd.V_drew)); exact HO_3.out) (Kd.N_base ho38) hb); have n1_ := Aside0.mk (Kd.V_elder' (by (with_reducible repeat (first | apply Kd.V_alloc | apply Kd.V_drewN | apply Kd.V_drew)); exact HL599_2.out) (Kd.N_base ho38) hb); have n2_ := Aside0.mk (Kd.N_lower ho38 (below_size (by repeat (first | (with_reducible first | exact HB.out | apply below_alloc | apply pw_below_drewN | apply below_drew1 | refine below_set ?_ GE582.out) | exact HB.out)))); have n3_ := Aside0.mk (blk_below (g := gb582) (o := .cells #[.int .i64 a0_0, .int .i64 a0_1] 49 (0, 0)) (by (with_reducible repeat (first | refine blk_drewN ?_ _ | refine blk_drew ?_ | refine blk_alloc ?_ _)); exact BK582.out) hb); have n4_ := Aside0.mk (Kd.C_below (by repeat (first | (with_reducible exact HR599_2.out) | (with_reducible refine Kd.C_alloc ?_ _) | (with_reducible refine Kd.C_drewN ?_ _) | (with_reducible refine Kd.C_drew ?_) | exact HR599_2.out)) hb); have n5_ := Aside0.mk (below_step (by repeat (first | (with_reducible first | exact HB.out | apply below_alloc | apply pw_below_drewN | apply below_drew1 | refine below_set ?_ GE582.out) | exact HB.out)) hb); clear HO_3; clear HL599_2; clear BK582; clear HR599_2; clear HB; have HO_3 := n0_; have HL599_2 := n1_; have HO604 := n2_; have BK582 := n3_; have HR599_2 := n4_; have HB := n5_; clear n0_ n1_ n2_ n3_ n4_ n5_; clear hb ho38) | ((with_reducible refine gate_builtin (b := .append) (xs := #[.tmp 50, .tmp 51]) rfl ?_); at_builtin; refine Kd.N_append_rows k62 (w0 := w) w.heap.size rfl (.tmp 50) (.tmp 51) 52 62 (.agg #[(.int .i64 0), (.int .i64 0), (.slice none 0 0)]) 40 rfl Try.underlying52 info62 rfl (by decide) (by omega) v603 y602 x3_1 _ _ _ (fun k_ => (P3_ k_ ∨ w.heap.size ≤ k_) ∧ k_ ≠ gb582) (fun k_ => ((fun k_ => (P3_ k_ ∨ w.heap.size ≤ k_) ∧ k_ ≠ gb582)) k_ ∧ some k_ ≠ (v603 : Value).ownBlock) rfl rfl ?aO ?aR (fun _ hk => hk) ?aF ?aB ?aS ?aL ?_; (case aR => exact (by skip; exact Kd.V_F (Kd.V_mono (ok' := (fun k_ => ((fun k_ => (P3_ k_ ∨ w.heap.size ≤ k_) ∧ k_ ≠ gb582)) k_ ∧ some k_ ≠ (v603 : Value).ownBlock)) (HO_3.out) (fun k_ hk => ⟨⟨hk.1.1, hk.1.2⟩, hk.2⟩)))); (case aB => exact (by repeat (first | (with_reducible first | exact HB.out | apply below_alloc | apply pw_below_drewN | apply below_drew1 | refine below_set ?_ GE582.out) | exact HB.out))); (case aF => exact (fun k_ hk => ⟨(.inr (Nat.le_trans (below_size (by repeat (first | (with_reducible first | exact HB.out | apply below_alloc | apply pw_below_drewN | apply below_drew1 | refine below_set ?_ GE582.out) | exact HB.out))) hk)), Kd.freshB (g := gb582) (o := .cells #[.int .i64 a0_0, .int .i64 a0_1] 49 (0, 0)) (by (with_reducible repeat (first | refine blk_drewN ?_ _ | refine blk_drew ?_ | refine blk_alloc ?_ _)); exact BK582.out) k_ hk⟩)); (case aO => exact (by (with_reducible repeat (first | apply Kd.N_alloc | apply Kd.N_drewN | apply Kd.N_drew)); exact HO604.out)); (case aS => exact (below_size (by repeat (first | (with_reducible first | exact HB.out | apply below_alloc | apply pw_below_drewN | apply below_drew1 | refine below_set ?_ GE582.out) | exact HB.out)))); (case aL => have := LMc29.out; omega); intro v606 w39 ho hb hg hat; rw [← Ny605.out] at ho; have n0_ := Aside0.mk (Kd.V_afterv (ok := (fun k_ => (P3_ k_ ∨ w.heap.size ≤ k_) ∧ k_ ≠ gb582)) (by (with_reducible repeat (first | apply Kd.V_alloc | apply Kd.V_drewN | apply Kd.V_drew)); exact HO_3.out) hg hat); have n1_ := Aside0.mk (blk_grown (g := gb582) (o := .cells #[.int .i64 a0_0, .int .i64 a0_1] 49 (0, 0)) (by (with_reducible repeat (first | refine blk_drewN ?_ _ | refine blk_drew ?_ | refine blk_alloc ?_ _)); exact BK582.out) hg (Kd.N_ne HO604.out BK582.out (by decide))); have n2_ := Aside0.mk (Kd.V_afterv (ok := (fun k_ => (P3_ k_ ∨ w.heap.size ≤ k_) ∧ k_ ≠ gb582)) (by (with_reducible repeat (first | apply Kd.V_alloc | apply Kd.V_drewN | apply Kd.V_drew)); exact HL599_2.out) hg hat); have n3_ := Aside0.mk (hb); have n4_ := Aside0.mk (ho); clear HO_3; clear BK582; clear HL599_2; clear HB; clear HO604; have HO_3 := n0_; have BK582 := n1_; have HL599_2 := n2_; have HB := n3_; have HO607 := n4_; clear n0_ n1_ n2_ n3_ n4_; clear ho hb hg hat))
                              have n0_ := Aside0.mk (Kd.V_drew HO_3.out)
                              have n1_ := Aside0.mk (Kd.V_drew HL599_2.out)
                              have n2_ := Aside0.mk (Kd.N_drew HO607.out)
                              have n3_ := Aside0.mk (blk_drew BK582.out)
                              have n4_ := Aside0.mk (below_drew1 HB.out)
                              clear HO_3
                              clear HL599_2
                              clear HO607
                              clear BK582
                              clear HB
                              have HO_3 := n0_
                              have HL599_2 := n1_
                              have HO607 := n2_
                              have BK582 := n3_
                              have HB := n4_
                              clear n0_ n1_ n2_ n3_ n4_
                              have p608 : 0 ≤ (x10_1 : Int) := of_decide_eq_true (by first | (with_reducible assumption) | assumption)
                              have q608 : x10_1 < (x3_1.length : Int) := of_decide_eq_true (by first | (with_reducible assumption) | assumption)
                              obtain ⟨ad608, A608_2, c608_2, e608, hx608_0, hx608_1, hx608_2, hl608_2, hi608_2⟩ := at_T62 (Kd.V_reads' HO_3.out).2.2 x10_1 p608 q608
                              obtain rfl : ad599 = ad608 := (by injection e608)
                              obtain ⟨ce608, hce608, hMe608, hcc608⟩ := Kd.V_get HO_3.out z62 x10_1 p608 (by first | exact q608 | exact of_decide_eq_true (by first | (with_reducible assumption) | assumption) | (have e_ := (Kd.V_reads' HO_3.out).1; omega))
                              obtain ⟨ua608_2, uc608_2, rfl, ul608_2, ge608_2⟩ := k62_openF hMe608
                              have hv608_2 := hcc608 2 _ rfl
                              rw [add_field _ _ 2 (by omega)] at hv608_2
                              replace hv608_2 := Option.some.inj (hv608_2.symm.trans hx608_2)
                              injection hv608_2 with hva_ hvn_ hvc_
                              rw [hva_] at ge608_2
                              rw [hvc_] at ul608_2
                              have HL608_2 := Aside0.mk (show Kd.V (Kd.int .i64) 3 _ w.heap.size _ _ ((rd_T62 x3_1 x10_1).f2) from Kd.V_mk ul608_2 ge608_2)
                              clear hva_ hvn_ hvc_ ge608_2 ul608_2
                              clear hcc608 hce608
                              have HR608_2 := Aside0.mk hi608_2
                              have HC608_2 := Aside0.mk hl608_2
                              clear hi608_2 hl608_2
                              replace p608 := eq_true p608
                              replace q608 := eq_true q608
                              have p609 : 0 ≤ (a2 : Int) := of_decide_eq_true (by first | (with_reducible assumption) | assumption)
                              have q609 : a2 < (l1.length : Int) := of_decide_eq_true (by first | (with_reducible assumption) | assumption)
                              obtain ⟨ad609, e609, hx609_0, hx609_1, hx609_2⟩ := at_T80 HR1.out a2 p609 q609
                              have hw609_2 := hx609_2
                              have hw609_1 := hx609_1
                              have hw609_0 := hx609_0
                              obtain rfl : ad589 = ad609 := (by injection e609)
                              replace hx609_0 := (HB.out.cell (World.block_lt_of_cell? w _ hx609_0)).trans hx609_0
                              replace hx609_1 := (HB.out.cell (World.block_lt_of_cell? w _ hx609_1)).trans hx609_1
                              replace hx609_2 := (HB.out.cell (World.block_lt_of_cell? w _ hx609_2)).trans hx609_2
                              replace p609 := eq_true p609
                              replace q609 := eq_true q609
                              refine start_ (n := 13) (S := fun w' => w'.cell? (ad599.add ((x10_1).toNat * 3)) = some (.int .i64 ((rd_T62 x3_1 x10_1).f0)) ∧ w'.cell? ⟨(ad599.add ((x10_1).toNat * 3)).block, (ad599.add ((x10_1).toNat * 3)).off + 1, none⟩ = some (.int .i64 ((rd_T62 x3_1 x10_1).f1)) ∧ w'.cell? ⟨(ad599.add ((x10_1).toNat * 3)).block, (ad599.add ((x10_1).toNat * 3)).off + 2, none⟩ = some (.slice A608_2 ((rd_T62 x3_1 x10_1).f2).length c608_2) ∧ w'.cell? (ad589.add ((a2).toNat * 3)) = some (.int .i64 ((rd_T80 l1 a2).f0)) ∧ w'.cell? ⟨(ad589.add ((a2).toNat * 3)).block, (ad589.add ((a2).toNat * 3)).off + 1, none⟩ = some (.int .i64 ((rd_T80 l1 a2).f1)) ∧ w'.cell? ⟨(ad589.add ((a2).toNat * 3)).block, (ad589.add ((a2).toNat * 3)).off + 2, none⟩ = some (.int .i64 ((rd_T80 l1 a2).f2))) (ds := [12]) #[false, false, false, false, false, false, false, false, false, false, false, false, false] (by kernel_rfl) rfl rfl ⟨hx608_0, hx608_1, hx608_2, ((HB.out.cell (World.block_lt_of_cell? w _ hw609_0)).trans hw609_0), ((HB.out.cell (World.block_lt_of_cell? w _ hw609_1)).trans hw609_1), ((HB.out.cell (World.block_lt_of_cell? w _ hw609_2)).trans hw609_2)⟩ (fun hHeld => ?_); refine with_tabW spec_l07Few.tab9 spec_l07Few.bits9 (fun HT_ HW_ => ?_)
                              generalize w39.drew = w40 at HO_3 HL599_2 HO607 BK582 HB HL608_2 HR608_2 hx608_0 hx608_1 hx608_2 hx609_0 hx609_1 hx609_2 hHeld ⊢
                              refine pure_ (i := 0) (N := some 53) (v := ?_) (a' := ?_) #[true, false, false, false, false, false, false, false, false, false, false, false, false] rfl rfl (any_of HT_.out (by kernel_rfl)) (fun _ _ _ h => h) (Or.inl ⟨by rfl, ?_⟩) ?_ ?_
                              rotate_left
                              · intro w'
                                go_simp
                                with_reducible rfl
                              rotate_left
                              · simp only [Act.put, List.setIfInBounds_toArray, List.set_cons_zero, List.set_cons_succ, i64_w, i32_w]
                                rfl
                              refine pure_ (i := 1) (N := some 54) (v := ?_) (a' := ?_) #[true, true, false, false, false, false, false, false, false, false, false, false, false] rfl rfl (any_of HT_.out (by kernel_rfl)) (fun _ _ _ h => h) (Or.inl ⟨by rfl, ?_⟩) ?_ ?_
                              rotate_left
                              · intro w'
                                go_simp
                                with_reducible rfl
                              rotate_left
                              · simp only [Act.put, List.setIfInBounds_toArray, List.set_cons_zero, List.set_cons_succ, i64_w, i32_w]
                                rfl
                              refine pure_ (i := 2) (N := some 55) (v := ?_) (a' := ?_) #[true, true, true, false, false, false, false, false, false, false, false, false, false] rfl rfl (any_of HT_.out (by kernel_rfl)) (fun _ _ _ h => h) (Or.inl ⟨by rfl, ?_⟩) ?_ ?_
                              rotate_left
                              · intro w'
                                go_simp
                                with_reducible rfl
                              rotate_left
                              · simp only [Act.put, List.setIfInBounds_toArray, List.set_cons_zero, List.set_cons_succ, i64_w, i32_w]
                                rfl
                              refine pure_ (i := 3) (N := some 56) (v := ?_) (a' := ?_) #[true, true, true, true, false, false, false, false, false, false, false, false, false] rfl rfl (any_of HT_.out (by kernel_rfl)) (fun _ _ _ h => h) (Or.inl ⟨by rfl, ?_⟩) ?_ ?_
                              rotate_left
                              · intro w'
                                go_simp
                                with_reducible rfl
                              rotate_left
                              · simp only [Act.put, List.setIfInBounds_toArray, List.set_cons_zero, List.set_cons_succ, i64_w, i32_w]
                                rfl
                              refine pure_ (i := 4) (N := some 57) (v := ?_) (a' := ?_) #[true, true, true, true, true, false, false, false, false, false, false, false, false] rfl rfl (any_of HT_.out (by kernel_rfl)) (fun _ _ _ h => h) (Or.inl ⟨by rfl, ?_⟩) ?_ ?_
                              rotate_left
                              · intro w'
                                go_simp
                                with_reducible rfl
                              rotate_left
                              · simp only [Act.put, List.setIfInBounds_toArray, List.set_cons_zero, List.set_cons_succ, i64_w, i32_w]
                                rfl
                              refine pure_ (i := 6) (N := some 59) (v := ?_) (a' := ?_) #[true, true, true, true, true, false, true, false, false, false, false, false, false] rfl rfl (any_of HT_.out (by kernel_rfl)) (fun _ _ _ h => h) (Or.inl ⟨by rfl, ?_⟩) ?_ ?_
                              rotate_left
                              · intro w'
                                go_simp
                                with_reducible rfl
                              rotate_left
                              · simp only [Act.put, List.setIfInBounds_toArray, List.set_cons_zero, List.set_cons_succ, i64_w, i32_w]
                                rfl
                              refine pure_ (i := 7) (N := some 60) (v := ?_) (a' := ?_) #[true, true, true, true, true, false, true, true, false, false, false, false, false] rfl rfl (any_of HT_.out (by kernel_rfl)) (fun _ _ _ h => h) (Or.inl ⟨by rfl, ?_⟩) ?_ ?_
                              rotate_left
                              · intro w'
                                go_simp
                                with_reducible rfl
                              rotate_left
                              · simp only [Act.put, List.setIfInBounds_toArray, List.set_cons_zero, List.set_cons_succ, i64_w, i32_w]
                                rfl
                              refine pure_ (i := 8) (N := some 61) (v := ?_) (a' := ?_) #[true, true, true, true, true, false, true, true, true, false, false, false, false] rfl rfl (any_of HT_.out (by kernel_rfl)) (fun _ _ _ h => h) (Or.inl ⟨by rfl, ?_⟩) ?_ ?_
                              rotate_left
                              · intro w'
                                go_simp
                                with_reducible rfl
                              rotate_left
                              · simp only [Act.put, List.setIfInBounds_toArray, List.set_cons_zero, List.set_cons_succ, i64_w, i32_w]
                                rfl
                              refine take_ (i := 5) (N := some 58) (v := ?_) (a' := ?_) #[true, true, true, true, true, true, true, true, true, false, false, false, false] rfl rfl (take_ofW HT_.out HW_.out (by kernel_rfl)) (fun _ _ _ h => h) (Or.inl ⟨by rfl, ?_⟩) hHeld ?_ ?_
                              rotate_left
                              · rintro w' ⟨s0, s1, s2, s3, s4, s5⟩
                                go_simp
                                with_reducible rfl
                              rotate_left
                              · simp only [Act.put, List.setIfInBounds_toArray, List.set_cons_zero, List.set_cons_succ, i64_w, i32_w]
                                rfl
                              refine take_ (i := 9) (N := some 62) (v := ?_) (a' := ?_) #[true, true, true, true, true, true, true, true, true, true, false, false, false] rfl rfl (take_ofW HT_.out HW_.out (by kernel_rfl)) (fun _ _ _ h => h) (Or.inl ⟨by rfl, ?_⟩) hHeld ?_ ?_
                              rotate_left
                              · rintro w' ⟨s0, s1, s2, s3, s4, s5⟩
                                go_simp
                                with_reducible rfl
                              rotate_left
                              · simp only [Act.put, List.setIfInBounds_toArray, List.set_cons_zero, List.set_cons_succ, i64_w, i32_w]
                                rfl
                              refine one_ (i := 10) (N := some 63) #[true, true, true, true, true, true, true, true, true, true, true, false, false] rfl rfl (one_of HT_.out (by kernel_rfl)) (by decide) (fun K hK => ?_)
                              refine goes_ Try.func80 (by kernel_rfl) rfl #[.agg #[.int .i64 ((rd_T62 x3_1 x10_1).f0), .int .i64 ((rd_T62 x3_1 x10_1).f1), .slice A608_2 ((rd_T62 x3_1 x10_1).f2).length c608_2], .agg #[.int .i64 ((rd_T80 l1 a2).f0), .int .i64 ((rd_T80 l1 a2).f1), .int .i64 ((rd_T80 l1 a2).f2)]] (by rfl) rfl rfl (by (try simp only [List.map_toArray, List.map_cons, List.map_nil]); first | done | rfl | (simp only [List.length_drop, List.length_take]; rfl)) ?_
                              with_reducible refine (spec_l07With.calls ((rd_T62 x3_1 x10_1).f0) ((rd_T62 x3_1 x10_1).f1) _ _ ((rd_T62 x3_1 x10_1).f2) ((rd_T80 l1 a2).f0) ((rd_T80 l1 a2).f1) ((rd_T80 l1 a2).f2) t610 t611 t612 _ ?side1 ?side2 A30.out).mono ?_
                              (case side1 => repeat (first | exact (by repeat (first | (with_reducible exact HR608_2.out) | (with_reducible refine Kd.C_alloc ?_ _) | (with_reducible refine Kd.C_drewN ?_ _) | (with_reducible refine Kd.C_drew ?_) | exact HR608_2.out)) | (with_reducible refine Kd.C_alloc ?_ _) | (with_reducible refine Kd.C_drewN ?_ _) | (with_reducible refine Kd.C_drew ?_)))
                              (case side2 => exact HC608_2.out)
                              rintro e w41 ⟨v613, rfl, ho0, hb⟩
                              have HS0_ := (hb.cell (World.block_lt_of_cell? _ _ (hHeld.1))).trans (hHeld.1)
                              have HS1_ := (hb.cell (World.block_lt_of_cell? _ _ (hHeld.2.1))).trans (hHeld.2.1)
                              have HS2_ := (hb.cell (World.block_lt_of_cell? _ _ (hHeld.2.2.1))).trans (hHeld.2.2.1)
                              refine ⟨_, rfl, ?_⟩
                              have n0_ := Aside0.mk (Kd.V_elder' (by (with_reducible repeat (first | apply Kd.V_alloc | apply Kd.V_drewN | apply Kd.V_drew)); exact HO_3.out) (Kd.R_base ho0) hb)
                              have n1_ := Aside0.mk (Kd.V_elder' (by (with_reducible repeat (first | apply Kd.V_alloc | apply Kd.V_drewN | apply Kd.V_drew)); exact HL599_2.out) (Kd.R_base ho0) hb)
                              have n2_ := Aside0.mk (Kd.N_elder' (by (with_reducible repeat (first | apply Kd.N_alloc | apply Kd.N_drewN | apply Kd.N_drew)); exact HO607.out) (Kd.R_base ho0) hb)
                              have n3_ := Aside0.mk (Kd.V_elder' (by (with_reducible repeat (first | apply Kd.V_alloc | apply Kd.V_drewN | apply Kd.V_drew)); exact HL608_2.out) (Kd.R_base ho0) hb)
                              have n4_ := Aside0.mk (Kd.R_lower (Kd.R_newM (M := fun k_ => (w.heap.size ≤ k_)) ho0 (below_size (by repeat (first | (with_reducible first | exact HB.out | apply below_alloc | apply pw_below_drewN | apply below_drew1 | refine below_set ?_ GE582.out) | exact HB.out))) (fun k_ h_ => h_)) (below_size (by repeat (first | (with_reducible first | exact HB.out | apply below_alloc | apply pw_below_drewN | apply below_drew1 | refine below_set ?_ GE582.out) | exact HB.out))))
                              have n5_ := Aside0.mk (blk_below (g := gb582) (o := .cells #[.int .i64 a0_0, .int .i64 a0_1] 49 (0, 0)) (by (with_reducible repeat (first | refine blk_drewN ?_ _ | refine blk_drew ?_ | refine blk_alloc ?_ _)); exact BK582.out) hb)
                              have n6_ := Aside0.mk (Kd.C_below (by repeat (first | (with_reducible exact HR608_2.out) | (with_reducible refine Kd.C_alloc ?_ _) | (with_reducible refine Kd.C_drewN ?_ _) | (with_reducible refine Kd.C_drew ?_) | exact HR608_2.out)) hb)
                              have n7_ := Aside0.mk (below_step (by repeat (first | (with_reducible first | exact HB.out | apply below_alloc | apply pw_below_drewN | apply below_drew1 | refine below_set ?_ GE582.out) | exact HB.out)) hb)
                              clear HO_3
                              clear HL599_2
                              clear HO607
                              clear HL608_2
                              clear BK582
                              clear HR608_2
                              clear HB
                              have HO_3 := n0_
                              have HL599_2 := n1_
                              have HO607 := n2_
                              have HL608_2 := n3_
                              have HO614 := n4_
                              have BK582 := n5_
                              have HR608_2 := n6_
                              have HB := n7_
                              clear n0_ n1_ n2_ n3_ n4_ n5_ n6_ n7_
                              (try clear hb)
                              (try clear hb2)
                              (try clear hk)
                              (try clear hi)
                              (try clear ho0)
                              have p32 : 0 ≤ (x10_1 : Int) := of_decide_eq_true (by first | (with_reducible assumption) | assumption)
                              have q32 : (x10_1 : Int) < ((y605.length : Int) : Int) := of_decide_eq_true (by first | (with_reducible assumption) | assumption)
                              obtain ⟨go32, co32, eo32, gb32, gl32, cl32, HG32⟩ := Kd.N_form HO607.out (by omega)
                              (first | cases eo32 | (injection eo32 with ea_ en_ ec_; (first | subst ea_ | (injection ea_ with ea_; subst ea_)); subst ec_; clear en_))
                              have GB32 := Aside0.mk gb32
                              have GG32 := Aside0.mk HG32
                              clear gb32 gl32 HG32
                              obtain ⟨ce32, hcl32, hM32, hcc32, hfr32⟩ := Kd.N_elem HO607.out z62 (x10_1 : Int) p32 q32
                              obtain ⟨ua32_2, uc32_2, rfl, ul32_2, ge32_2⟩ := k62_openF hM32
                              have hx32_0 : World.cell? _ ⟨go32, (x10_1 : Int).toNat * 3, none⟩ = some (.int .i64 ((rd_T62 y605 x10_1).f0)) := hcc32 0 _ rfl
                              have hx32_1 : World.cell? _ ⟨go32, (x10_1 : Int).toNat * 3 + 1, none⟩ = some (.int .i64 ((rd_T62 y605 x10_1).f1)) := hcc32 1 _ rfl
                              have hx32_2 : World.cell? _ ⟨go32, (x10_1 : Int).toNat * 3 + 2, none⟩ = some (.slice ua32_2 ((rd_T62 y605 x10_1).f2).length uc32_2) := hcc32 2 _ rfl
                              have hf32_0 : World.frozen? _ ⟨go32, (x10_1 : Int).toNat * 3, none⟩ = false := hfr32 0
                              have hf32_1 : World.frozen? _ ⟨go32, (x10_1 : Int).toNat * 3 + 1, none⟩ = false := hfr32 1
                              have hf32_2 : World.frozen? _ ⟨go32, (x10_1 : Int).toNat * 3 + 2, none⟩ = false := hfr32 2
                              clear hcl32 hcc32 hfr32 hM32
                              replace p32 := eq_true p32
                              replace q32 := eq_true q32
                              obtain ⟨Ao613, co613, eo613⟩ := Kd.R_slice HO614.out
                              subst eo613
                              have HX42 := Aside0.mk (show Kd.N k62 62 _ w.heap.size (fun k_ => (P3_ k_ ∨ w.heap.size ≤ k_) ∧ some k_ ≠ ((.slice Ao613 t612.length co613) : Value).ownBlock ∧ k_ ≠ gb582) (.slice (some ⟨go32, 0, none⟩) y605.length co32) y605 from (Kd.N_mono (HO607.out) (fun k_ hk => ⟨hk.1.1, ⟨hk.2, hk.1.2⟩⟩)))
                              replace HX42 := Aside0.mk (show Kd.N k62 62 _ w.heap.size (fun k_ => (P3_ k_ ∨ w.heap.size ≤ k_) ∧ k_ ≠ gb582) (.slice (some ⟨go32, 0, none⟩) y605.length co32) y605 from Kd.N_mono HX42.out (fun k_ hk => ⟨hk.1, hk.2.2⟩))
                              obtain ⟨ce42, hcl42, hM42, hcc42, hfr42⟩ := Kd.N_elem HX42.out z62 (x10_1 : Int) (of_decide_eq_true (by first | (with_reducible assumption) | assumption)) (by have h_ : (x10_1 : Int) < ((y605.length : Int) : Int) := of_decide_eq_true (by first | (with_reducible assumption) | assumption); first | exact h_ | (have e_ := (Kd.N_reads' HO607.out).1; omega) | simpa using h_)
                              obtain ⟨ua42_2, uc42_2, rfl, ul42_2, ge42_2⟩ := k62_openF hM42
                              have HP42 := (Kd.N_seg HX42.out (x10_1 : Int) (of_decide_eq_true (by first | (with_reducible assumption) | assumption)) (by have h_ : (x10_1 : Int) < ((y605.length : Int) : Int) := of_decide_eq_true (by first | (with_reducible assumption) | assumption); first | exact h_ | (have e_ := (Kd.N_reads' HO607.out).1; omega) | simpa using h_) (seg := [.int .i64 t610, .int .i64 t611, (.slice Ao613 t612.length co613)]) (j := 0) hcl42 hcc42 (show 3 ≤ 3 from by decide) (x' := (⟨t610, t611, t612⟩ : S62)) (k62_mkF _ _ (⟨t610, t611, t612⟩ : S62) (Kd.R_reads' (Kd.R_mono (ok' := (fun k_ => ((fun k_ => (P3_ k_ ∨ w.heap.size ≤ k_) ∧ k_ ≠ gb582)) k_ ∧ k_ ≠ go32)) (Kd.R_types (Kd.R_apart' (HO614.out) (Kd.N_typed HO607.out) (by decide)) BK582.out (by decide)) (fun k_ hk => ⟨⟨(.inr (hk.1.1.1)), hk.2⟩, fun e_ => (hk.1.2) (by rw [e_]; rfl)⟩))).2.1 (Kd.R_F (Kd.R_mono (ok' := (fun k_ => ((fun k_ => (P3_ k_ ∨ w.heap.size ≤ k_) ∧ k_ ≠ gb582)) k_ ∧ k_ ≠ go32)) (Kd.R_types (Kd.R_apart' (HO614.out) (Kd.N_typed HO607.out) (by decide)) BK582.out (by decide)) (fun k_ hk => ⟨⟨(.inr (hk.1.1.1)), hk.2⟩, fun e_ => (hk.1.2) (by rw [e_]; rfl)⟩)))) (fun _ hk => hk)).1
                              rw [← Ny615.out] at HP42
                              have HQ42 := Aside0.mk HP42
                              clear hcl42 hcc42 hfr42 hM42 HP42
                              refine hK.out _ _ ⟨HS0_, HS1_, HS2_, ((HB.out.cell (World.block_lt_of_cell? w _ hw609_0)).trans hw609_0), ((HB.out.cell (World.block_lt_of_cell? w _ hw609_1)).trans hw609_1), ((HB.out.cell (World.block_lt_of_cell? w _ hw609_2)).trans hw609_2)⟩ (fun hHeld => ?_)
                              clear hK K
                              refine norm_ (a' := ?_) ?_ ?_
                              rotate_left
                              · show Act.put _ (some 63) _ = _
                                simp only [Act.put, List.setIfInBounds_toArray, List.set_cons_zero, List.set_cons_succ, i64_w, i32_w]
                                rfl
                              refine pure_ (i := 11) (N := some 64) (v := ?_) (a' := ?_) #[true, true, true, true, true, true, true, true, true, true, true, true, false] rfl rfl (any_of HT_.out (by kernel_rfl)) (fun _ _ _ h => h) (Or.inl ⟨by rfl, ?_⟩) ?_ ?_
                              rotate_left
                              · intro w'
                                go_simp
                                with_reducible rfl
                              rotate_left
                              · simp only [Act.put, List.setIfInBounds_toArray, List.set_cons_zero, List.set_cons_succ, i64_w, i32_w]
                                rfl
                              refine last_ (i := 12) (N := none) #[true, true, true, true, true, true, true, true, true, true, true, true, true] rfl rfl (one_of HT_.out (by kernel_rfl)) (by decide) (fun K hK => ?_)
                              refine skip_ (w1 := ?_) (by rfl) rfl ?_ ?_
                              rotate_left
                              · go_simp
                                rfl
                              refine hK.out _ _ ?_
                              clear hK K
                              refine done_ (done_of HT_.out (by kernel_rfl)) ?_
                              have n0_ : Aside0 (Kd.V k62 62 (((w41.setCell ⟨go32, (x10_1 : Int).toNat * 3, none⟩ (.int .i64 t610)).setCell ⟨go32, (x10_1 : Int).toNat * 3 + 1, none⟩ (.int .i64 t611)).setCell ⟨go32, (x10_1 : Int).toNat * 3 + 2, none⟩ ((.slice Ao613 t612.length co613))) w.heap.size (fun k_ => (P3_ k_ ∨ w.heap.size ≤ k_) ∧ some k_ ≠ (.slice (some ⟨go32, 0, none⟩) y605.length co32 : Value).ownBlock ∧ k_ ≠ gb582) (.slice (some ad599) x3_1.length c3) x3_1) := ⟨by (with_reducible repeat (first | apply Kd.V_alloc | apply Kd.V_drewN | apply Kd.V_drew)); exact Kd.V_mono (Kd.V_far (p := ⟨go32, (x10_1 : Int).toNat * 3 + 2, none⟩) (Kd.V_far (p := ⟨go32, (x10_1 : Int).toNat * 3 + 1, none⟩) (Kd.V_far (p := ⟨go32, (x10_1 : Int).toNat * 3, none⟩) (Kd.V_mono HO_3.out (fun k_ hk => (⟨hk, fun e_ => hk.1.2 (by rw [e_]; rfl)⟩ : _ ∧ k_ ≠ go32))) (fun _ hk => hk.2) (.int .i64 t610)) (fun _ hk => hk.2) (.int .i64 t611)) (fun _ hk => hk.2) ((.slice Ao613 t612.length co613))) (fun _ hk => ⟨hk.1.1.1.1, ⟨hk.1.1.2, hk.1.1.1.2⟩⟩)⟩
                              have n1_ : Aside0 (Kd.V (Kd.int .i64) 3 (((w41.setCell ⟨go32, (x10_1 : Int).toNat * 3, none⟩ (.int .i64 t610)).setCell ⟨go32, (x10_1 : Int).toNat * 3 + 1, none⟩ (.int .i64 t611)).setCell ⟨go32, (x10_1 : Int).toNat * 3 + 2, none⟩ ((.slice Ao613 t612.length co613))) w.heap.size (fun k_ => (P3_ k_ ∨ w.heap.size ≤ k_) ∧ some k_ ≠ (.slice (some ⟨go32, 0, none⟩) y605.length co32 : Value).ownBlock ∧ k_ ≠ gb582) (.slice A599_2 ((rd_T62 x3_1 x10_1).f2).length c599_2) ((rd_T62 x3_1 x10_1).f2)) := ⟨by (with_reducible repeat (first | apply Kd.V_alloc | apply Kd.V_drewN | apply Kd.V_drew)); exact Kd.V_mono (Kd.V_far (p := ⟨go32, (x10_1 : Int).toNat * 3 + 2, none⟩) (Kd.V_far (p := ⟨go32, (x10_1 : Int).toNat * 3 + 1, none⟩) (Kd.V_far (p := ⟨go32, (x10_1 : Int).toNat * 3, none⟩) (Kd.V_mono HL599_2.out (fun k_ hk => (⟨hk, fun e_ => hk.1.2 (by rw [e_]; rfl)⟩ : _ ∧ k_ ≠ go32))) (fun _ hk => hk.2) (.int .i64 t610)) (fun _ hk => hk.2) (.int .i64 t611)) (fun _ hk => hk.2) ((.slice Ao613 t612.length co613))) (fun _ hk => ⟨hk.1.1.1.1, ⟨hk.1.1.2, hk.1.1.1.2⟩⟩)⟩
                              have n2_ : Aside0 (Kd.N k62 62 (((w41.setCell ⟨go32, (x10_1 : Int).toNat * 3, none⟩ (.int .i64 t610)).setCell ⟨go32, (x10_1 : Int).toNat * 3 + 1, none⟩ (.int .i64 t611)).setCell ⟨go32, (x10_1 : Int).toNat * 3 + 2, none⟩ ((.slice Ao613 t612.length co613))) w.heap.size (fun k_ => (P3_ k_ ∨ w.heap.size ≤ k_) ∧ k_ ≠ gb582) (.slice (some ⟨go32, 0, none⟩) y605.length co32) y615) := ⟨by (with_reducible repeat (first | apply Kd.N_alloc | apply Kd.N_drewN | apply Kd.N_drew)); exact HQ42.out⟩
                              have n3_ : Aside0 (Kd.V (Kd.int .i64) 3 (((w41.setCell ⟨go32, (x10_1 : Int).toNat * 3, none⟩ (.int .i64 t610)).setCell ⟨go32, (x10_1 : Int).toNat * 3 + 1, none⟩ (.int .i64 t611)).setCell ⟨go32, (x10_1 : Int).toNat * 3 + 2, none⟩ ((.slice Ao613 t612.length co613))) w.heap.size (fun k_ => (P3_ k_ ∨ w.heap.size ≤ k_) ∧ some k_ ≠ (.slice (some ⟨go32, 0, none⟩) y605.length co32 : Value).ownBlock ∧ k_ ≠ gb582) (.slice A608_2 ((rd_T62 x3_1 x10_1).f2).length c608_2) ((rd_T62 x3_1 x10_1).f2)) := ⟨by (with_reducible repeat (first | apply Kd.V_alloc | apply Kd.V_drewN | apply Kd.V_drew)); exact Kd.V_mono (Kd.V_far (p := ⟨go32, (x10_1 : Int).toNat * 3 + 2, none⟩) (Kd.V_far (p := ⟨go32, (x10_1 : Int).toNat * 3 + 1, none⟩) (Kd.V_far (p := ⟨go32, (x10_1 : Int).toNat * 3, none⟩) (Kd.V_mono HL608_2.out (fun k_ hk => (⟨hk, fun e_ => hk.1.2 (by rw [e_]; rfl)⟩ : _ ∧ k_ ≠ go32))) (fun _ hk => hk.2) (.int .i64 t610)) (fun _ hk => hk.2) (.int .i64 t611)) (fun _ hk => hk.2) ((.slice Ao613 t612.length co613))) (fun _ hk => ⟨hk.1.1.1.1, ⟨hk.1.1.2, hk.1.1.1.2⟩⟩)⟩
                              have n4_ : Aside0 ((((w41.setCell ⟨go32, (x10_1 : Int).toNat * 3, none⟩ (.int .i64 t610)).setCell ⟨go32, (x10_1 : Int).toNat * 3 + 1, none⟩ (.int .i64 t611)).setCell ⟨go32, (x10_1 : Int).toNat * 3 + 2, none⟩ ((.slice Ao613 t612.length co613))).heap[gb582]? = some (.cells #[.int .i64 a0_0, .int .i64 a0_1] 49 (0, 0))) := ⟨by (with_reducible repeat (first | refine blk_drewN ?_ _ | refine blk_drew ?_ | refine blk_alloc ?_ _)); refine blk_far ?_ (by have h_ := Kd.N_away HO607.out (fun _ hk => by first | exact hk.2 | exact hk.1.2 | exact hk.1.1.2); intro e_; exact h_ (by rw [e_]; rfl)) _; (with_reducible repeat (first | refine blk_drewN ?_ _ | refine blk_drew ?_ | refine blk_alloc ?_ _)); refine blk_far ?_ (by have h_ := Kd.N_away HO607.out (fun _ hk => by first | exact hk.2 | exact hk.1.2 | exact hk.1.1.2); intro e_; exact h_ (by rw [e_]; rfl)) _; (with_reducible repeat (first | refine blk_drewN ?_ _ | refine blk_drew ?_ | refine blk_alloc ?_ _)); refine blk_far ?_ (by have h_ := Kd.N_away HO607.out (fun _ hk => by first | exact hk.2 | exact hk.1.2 | exact hk.1.1.2); intro e_; exact h_ (by rw [e_]; rfl)) _; (with_reducible repeat (first | refine blk_drewN ?_ _ | refine blk_drew ?_ | refine blk_alloc ?_ _)); exact BK582.out⟩
                              have n5_ : Aside0 (Below w.heap.size w (((w41.setCell ⟨go32, (x10_1 : Int).toNat * 3, none⟩ (.int .i64 t610)).setCell ⟨go32, (x10_1 : Int).toNat * 3 + 1, none⟩ (.int .i64 t611)).setCell ⟨go32, (x10_1 : Int).toNat * 3 + 2, none⟩ ((.slice Ao613 t612.length co613)))) := ⟨by repeat (first | (with_reducible first | exact HB.out | apply below_alloc | apply pw_below_drewN | apply below_drew1 | refine below_set ?_ GB32.out | refine below_set ?_ GB32.out | refine below_set ?_ GB32.out | refine below_set ?_ GE582.out) | exact HB.out)⟩
                              (try clear HO_3)
                              (try clear HL599_2)
                              (try clear HO607)
                              (try clear HL608_2)
                              (try clear BK582)
                              (try clear HB)
                              generalize (((w41.setCell ⟨go32, (x10_1 : Int).toNat * 3, none⟩ (.int .i64 t610)).setCell ⟨go32, (x10_1 : Int).toNat * 3 + 1, none⟩ (.int .i64 t611)).setCell ⟨go32, (x10_1 : Int).toNat * 3 + 2, none⟩ ((.slice Ao613 t612.length co613))) = w43 at n0_ n1_ n2_ n3_ n4_ n5_ ⊢
                              have HO_3 := n0_
                              have HL599_2 := n1_
                              have HO607 := n2_
                              have HL608_2 := n3_
                              have BK582 := n4_
                              have HB := n5_
                              clear n0_ n1_ n2_ n3_ n4_ n5_
                              have hcz44_0 : w43.cell? ⟨gb582, 0, none⟩ = some (.int .i64 a0_0) := (blk_cell BK582.out 0).trans rfl
                              have hcz44_1 : w43.cell? ⟨gb582, 1, none⟩ = some (.int .i64 a0_1) := (blk_cell BK582.out 1).trans rfl
                              have hfz44_0 := blk_frozen BK582.out 0
                              have hfz44_1 := blk_frozen BK582.out 1
                              try go_wp2_with (first | ((with_reducible refine gate_callee (f := 72) rfl ?_); refine goesL_ (some 71) rfl rfl Try.func72 (by kernel_rfl) rfl #[.agg #[.int .i64 a0_0, .int .i64 a0_1], .slice (some ad589) l1.length c1, .int .i64 (wrap64 (a2 + 1)), .slice (some ⟨go32, 0, none⟩) y615.length co32] rfl (by (try simp only [List.map_toArray, List.map_cons, List.map_nil]); first | done | (rw [show y615.length = y605.length from (Kd.N_reads' HO607.out).1.symm] <;> rfl) | rfl | (simp only [List.length_drop, List.length_take]; rfl)) ?_; (with_reducible refine (ih k1 (by have := HK1.out; omega) a0_0 a0_1 _ _ l1 (wrap64 (a2 + 1)) (fun k_ => ((P3_ k_ ∨ w.heap.size ≤ k_) ∧ k_ ≠ gb582)) _ _ y615 t616 _ ?side1 ?side2 ?side3 A33.out).mono ?_); (case side1 => repeat (first | exact (Kd.C_below HR1.out HB.out) | (with_reducible refine Kd.C_alloc ?_ _) | (with_reducible refine Kd.C_drewN ?_ _) | (with_reducible refine Kd.C_drew ?_))); (case side2 => exact HC1.out); (case side3 => rw [show y615.length = y605.length from (Kd.N_reads' HO607.out).1.symm]; exact Kd.N_V (HO607.out)); rintro e w45 ⟨rfl, hb⟩; refine ⟨_, rfl, ?_⟩; have n0_ := Aside0.mk (Kd.V_below (by (with_reducible repeat (first | apply Kd.V_alloc | apply Kd.V_drewN | apply Kd.V_drew)); exact HO_3.out) hb); have n1_ := Aside0.mk (Kd.V_below (by (with_reducible repeat (first | apply Kd.V_alloc | apply Kd.V_drewN | apply Kd.V_drew)); exact HL599_2.out) hb); have n2_ := Aside0.mk (Kd.N_below (by (with_reducible repeat (first | apply Kd.N_alloc | apply Kd.N_drewN | apply Kd.N_drew)); exact HO607.out) hb); have n3_ := Aside0.mk (Kd.V_below (by (with_reducible repeat (first | apply Kd.V_alloc | apply Kd.V_drewN | apply Kd.V_drew)); exact HL608_2.out) hb); have n4_ := Aside0.mk (blk_below (g := gb582) (o := .cells #[.int .i64 a0_0, .int .i64 a0_1] 49 (0, 0)) (by (with_reducible repeat (first | refine blk_drewN ?_ _ | refine blk_drew ?_ | refine blk_alloc ?_ _)); exact BK582.out) hb); have n5_ := Aside0.mk (below_step (by repeat (first | (with_reducible first | exact HB.out | apply below_alloc | apply pw_below_drewN | apply below_drew1 | refine below_set ?_ GE582.out) | exact HB.out)) hb); clear HO_3; clear HL599_2; clear HO607; clear HL608_2; clear BK582; clear HB; have HO_3 := n0_; have HL599_2 := n1_; have HO607 := n2_; have HL608_2 := n3_; have BK582 := n4_; have HB := n5_; clear n0_ n1_ n2_ n3_ n4_ n5_; (try clear hb); (try clear hb2); (try clear hk); (try clear hi)))
                              (try simp only [← hl3_1])
                              go_roundg k1
                              case measure => have := HK1.out; omega
                              case rel => exact ⟨(x3_1), (ji34), (wrap64 (x10_1 + 1)), (by first | rfl | (simp; done) | (simp only [← hji34] <;> (first | rfl | (simp; done) | (congr 2; unfold mx; rw [Int.max_def]; split <;> split <;> omega) | (simp; unfold mx; rw [Int.max_def]; congr 2; split <;> split <;> omega))) | (simp [*]; done)), (by first | rfl | (simp; done) | (simp [*]; done)), H', ⟨by have := HK1.out; omega⟩, ⟨by (try simp only [hl3_1]); (with_reducible repeat (first | apply Kd.V_alloc | apply Kd.V_drewN | apply Kd.V_drew)); exact Kd.V_mono HO_3.out (fun _ hk => ⟨hk.1, hk.2.2⟩)⟩, ⟨by (try simp only [hl3_1]); (with_reducible repeat (first | refine blk_drewN ?_ _ | refine blk_drew ?_ | refine blk_alloc ?_ _)); exact BK582.out⟩, ⟨by repeat (first | (with_reducible first | exact HB.out | apply below_alloc | apply pw_below_drewN | apply below_drew1 | refine below_set ?_ GE582.out) | exact HB.out)⟩⟩
                            · rw [if_neg c31] at H
                              exact absurd H (by simp)
                          · rw [if_neg c29] at H
                            exact absurd H (by simp)
                        · replace c28 := Bool.eq_false_iff.mpr c28
                          subst c28
                          have H1 : (spec_l07Few.l0 k1 l1 a2 x3_1 x9_1 (wrap64 (x10_1 + 1)) a0_0 a0_1) = some r := by rw [if_neg (show ¬ (false = true) by decide)] at H; exact H
                          clear H
                          have H := H1
                          clear H1
                          have H' := Aside0.mk H
                          clear H
                          try go_wp2
                          have n0_ := Aside0.mk (Kd.V_drew HO_3.out)
                          have n1_ := Aside0.mk (blk_drew BK582.out)
                          have n2_ := Aside0.mk (below_drew1 HB.out)
                          clear HO_3
                          clear BK582
                          clear HB
                          have HO_3 := n0_
                          have BK582 := n1_
                          have HB := n2_
                          clear n0_ n1_ n2_
                          have p599 : 0 ≤ (x10_1 : Int) := of_decide_eq_true (by first | (with_reducible assumption) | assumption)
                          have q599 : x10_1 < (x3_1.length : Int) := of_decide_eq_true (by first | (with_reducible assumption) | assumption)
                          obtain ⟨ad599, A599_2, c599_2, e599, hx599_0, hx599_1, hx599_2, hl599_2, hi599_2⟩ := at_T62 (Kd.V_reads' HO_3.out).2.2 x10_1 p599 q599
                          cases e599
                          obtain ⟨ce599, hce599, hMe599, hcc599⟩ := Kd.V_get HO_3.out z62 x10_1 p599 (by first | exact q599 | exact of_decide_eq_true (by first | (with_reducible assumption) | assumption) | (have e_ := (Kd.V_reads' HO_3.out).1; omega))
                          obtain ⟨ua599_2, uc599_2, rfl, ul599_2, ge599_2⟩ := k62_openF hMe599
                          have hv599_2 := hcc599 2 _ rfl
                          rw [add_field _ _ 2 (by omega)] at hv599_2
                          replace hv599_2 := Option.some.inj (hv599_2.symm.trans hx599_2)
                          injection hv599_2 with hva_ hvn_ hvc_
                          rw [hva_] at ge599_2
                          rw [hvc_] at ul599_2
                          have HL599_2 := Aside0.mk (show Kd.V (Kd.int .i64) 3 _ w.heap.size _ _ ((rd_T62 x3_1 x10_1).f2) from Kd.V_mk ul599_2 ge599_2)
                          clear hva_ hvn_ hvc_ ge599_2 ul599_2
                          clear hcc599 hce599
                          have HR599_2 := Aside0.mk hi599_2
                          have HC599_2 := Aside0.mk hl599_2
                          clear hi599_2 hl599_2
                          replace p599 := eq_true p599
                          replace q599 := eq_true q599
                          have p600 : 0 ≤ (a2 : Int) := of_decide_eq_true (by first | (with_reducible assumption) | assumption)
                          have q600 : a2 < (l1.length : Int) := of_decide_eq_true (by first | (with_reducible assumption) | assumption)
                          obtain ⟨ad600, e600, hx600_0, hx600_1, hx600_2⟩ := at_T80 HR1.out a2 p600 q600
                          have hw600_2 := hx600_2
                          have hw600_1 := hx600_1
                          have hw600_0 := hx600_0
                          obtain rfl : ad589 = ad600 := (by injection e600)
                          replace hx600_0 := (HB.out.cell (World.block_lt_of_cell? w _ hx600_0)).trans hx600_0
                          replace hx600_1 := (HB.out.cell (World.block_lt_of_cell? w _ hx600_1)).trans hx600_1
                          replace hx600_2 := (HB.out.cell (World.block_lt_of_cell? w _ hx600_2)).trans hx600_2
                          replace p600 := eq_true p600
                          replace q600 := eq_true q600
                          refine start_ (n := 10) (S := fun w' => w'.cell? ⟨gb582, 0, none⟩ = some (.int .i64 a0_0) ∧ w'.cell? ⟨gb582, 1, none⟩ = some (.int .i64 a0_1) ∧ w'.cell? (ad599.add ((x10_1).toNat * 3)) = some (.int .i64 ((rd_T62 x3_1 x10_1).f0)) ∧ w'.cell? ⟨(ad599.add ((x10_1).toNat * 3)).block, (ad599.add ((x10_1).toNat * 3)).off + 1, none⟩ = some (.int .i64 ((rd_T62 x3_1 x10_1).f1)) ∧ w'.cell? ⟨(ad599.add ((x10_1).toNat * 3)).block, (ad599.add ((x10_1).toNat * 3)).off + 2, none⟩ = some (.slice A599_2 ((rd_T62 x3_1 x10_1).f2).length c599_2) ∧ w'.cell? (ad589.add ((a2).toNat * 3)) = some (.int .i64 ((rd_T80 l1 a2).f0)) ∧ w'.cell? ⟨(ad589.add ((a2).toNat * 3)).block, (ad589.add ((a2).toNat * 3)).off + 1, none⟩ = some (.int .i64 ((rd_T80 l1 a2).f1)) ∧ w'.cell? ⟨(ad589.add ((a2).toNat * 3)).block, (ad589.add ((a2).toNat * 3)).off + 2, none⟩ = some (.int .i64 ((rd_T80 l1 a2).f2))) (ds := []) #[false, false, false, false, false, false, false, false, false, false] (by kernel_rfl) rfl rfl ⟨(blk_cell BK582.out 0).trans rfl, (blk_cell BK582.out 1).trans rfl, hx599_0, hx599_1, hx599_2, ((HB.out.cell (World.block_lt_of_cell? w _ hw600_0)).trans hw600_0), ((HB.out.cell (World.block_lt_of_cell? w _ hw600_1)).trans hw600_1), ((HB.out.cell (World.block_lt_of_cell? w _ hw600_2)).trans hw600_2)⟩ (fun hHeld => ?_); refine with_tabW spec_l07Few.tab7 spec_l07Few.bits7 (fun HT_ HW_ => ?_)
                          generalize wr.drew = w46 at HO_3 BK582 HB HL599_2 HR599_2 hx599_0 hx599_1 hx599_2 hx600_0 hx600_1 hx600_2 hHeld ⊢
                          refine pure_ (i := 1) (N := some 41) (v := ?_) (a' := ?_) #[false, true, false, false, false, false, false, false, false, false] rfl rfl (any_of HT_.out (by kernel_rfl)) (fun _ _ _ h => h) (Or.inl ⟨by rfl, ?_⟩) ?_ ?_
                          rotate_left
                          · intro w'
                            go_simp
                            with_reducible rfl
                          rotate_left
                          · simp only [Act.put, List.setIfInBounds_toArray, List.set_cons_zero, List.set_cons_succ, i64_w, i32_w]
                            rfl
                          refine pure_ (i := 2) (N := some 42) (v := ?_) (a' := ?_) #[false, true, true, false, false, false, false, false, false, false] rfl rfl (any_of HT_.out (by kernel_rfl)) (fun _ _ _ h => h) (Or.inl ⟨by rfl, ?_⟩) ?_ ?_
                          rotate_left
                          · intro w'
                            go_simp
                            with_reducible rfl
                          rotate_left
                          · simp only [Act.put, List.setIfInBounds_toArray, List.set_cons_zero, List.set_cons_succ, i64_w, i32_w]
                            rfl
                          refine pure_ (i := 3) (N := some 43) (v := ?_) (a' := ?_) #[false, true, true, true, false, false, false, false, false, false] rfl rfl (any_of HT_.out (by kernel_rfl)) (fun _ _ _ h => h) (Or.inl ⟨by rfl, ?_⟩) ?_ ?_
                          rotate_left
                          · intro w'
                            go_simp
                            with_reducible rfl
                          rotate_left
                          · simp only [Act.put, List.setIfInBounds_toArray, List.set_cons_zero, List.set_cons_succ, i64_w, i32_w]
                            rfl
                          refine pure_ (i := 5) (N := some 45) (v := ?_) (a' := ?_) #[false, true, true, true, false, true, false, false, false, false] rfl rfl (any_of HT_.out (by kernel_rfl)) (fun _ _ _ h => h) (Or.inl ⟨by rfl, ?_⟩) ?_ ?_
                          rotate_left
                          · intro w'
                            go_simp
                            with_reducible rfl
                          rotate_left
                          · simp only [Act.put, List.setIfInBounds_toArray, List.set_cons_zero, List.set_cons_succ, i64_w, i32_w]
                            rfl
                          refine pure_ (i := 6) (N := some 46) (v := ?_) (a' := ?_) #[false, true, true, true, false, true, true, false, false, false] rfl rfl (any_of HT_.out (by kernel_rfl)) (fun _ _ _ h => h) (Or.inl ⟨by rfl, ?_⟩) ?_ ?_
                          rotate_left
                          · intro w'
                            go_simp
                            with_reducible rfl
                          rotate_left
                          · simp only [Act.put, List.setIfInBounds_toArray, List.set_cons_zero, List.set_cons_succ, i64_w, i32_w]
                            rfl
                          refine pure_ (i := 7) (N := some 47) (v := ?_) (a' := ?_) #[false, true, true, true, false, true, true, true, false, false] rfl rfl (any_of HT_.out (by kernel_rfl)) (fun _ _ _ h => h) (Or.inl ⟨by rfl, ?_⟩) ?_ ?_
                          rotate_left
                          · intro w'
                            go_simp
                            with_reducible rfl
                          rotate_left
                          · simp only [Act.put, List.setIfInBounds_toArray, List.set_cons_zero, List.set_cons_succ, i64_w, i32_w]
                            rfl
                          refine take_ (i := 0) (N := some 40) (v := ?_) (a' := ?_) #[true, true, true, true, false, true, true, true, false, false] rfl rfl (take_ofW HT_.out HW_.out (by kernel_rfl)) (fun _ _ _ h => h) (Or.inl ⟨by rfl, ?_⟩) hHeld ?_ ?_
                          rotate_left
                          · rintro w' ⟨s0, s1, s2, s3, s4, s5, s6, s7⟩
                            go_simp
                            with_reducible rfl
                          rotate_left
                          · simp only [Act.put, List.setIfInBounds_toArray, List.set_cons_zero, List.set_cons_succ, i64_w, i32_w]
                            rfl
                          refine take_ (i := 4) (N := some 44) (v := ?_) (a' := ?_) #[true, true, true, true, true, true, true, true, false, false] rfl rfl (take_ofW HT_.out HW_.out (by kernel_rfl)) (fun _ _ _ h => h) (Or.inl ⟨by rfl, ?_⟩) hHeld ?_ ?_
                          rotate_left
                          · rintro w' ⟨s0, s1, s2, s3, s4, s5, s6, s7⟩
                            go_simp
                            with_reducible rfl
                          rotate_left
                          · simp only [Act.put, List.setIfInBounds_toArray, List.set_cons_zero, List.set_cons_succ, i64_w, i32_w]
                            rfl
                          refine take_ (i := 8) (N := some 48) (v := ?_) (a' := ?_) #[true, true, true, true, true, true, true, true, true, false] rfl rfl (take_ofW HT_.out HW_.out (by kernel_rfl)) (fun _ _ _ h => h) (Or.inl ⟨by rfl, ?_⟩) hHeld ?_ ?_
                          rotate_left
                          · rintro w' ⟨s0, s1, s2, s3, s4, s5, s6, s7⟩
                            go_simp
                            with_reducible rfl
                          rotate_left
                          · simp only [Act.put, List.setIfInBounds_toArray, List.set_cons_zero, List.set_cons_succ, i64_w, i32_w]
                            rfl
                          refine one_ (i := 9) (N := some 49) #[true, true, true, true, true, true, true, true, true, true] rfl rfl (one_of HT_.out (by kernel_rfl)) (by decide) (fun K hK => ?_)
                          refine goes_ Try.func79 (by kernel_rfl) rfl #[.agg #[.int .i64 a0_0, .int .i64 a0_1], .agg #[.int .i64 ((rd_T62 x3_1 x10_1).f0), .int .i64 ((rd_T62 x3_1 x10_1).f1), .slice A599_2 ((rd_T62 x3_1 x10_1).f2).length c599_2], .agg #[.int .i64 ((rd_T80 l1 a2).f0), .int .i64 ((rd_T80 l1 a2).f1), .int .i64 ((rd_T80 l1 a2).f2)]] (by rfl) rfl rfl (by (try simp only [List.map_toArray, List.map_cons, List.map_nil]); first | done | rfl | (simp only [List.length_drop, List.length_take]; rfl)) ?_
                          with_reducible refine (spec_l07Takes.calls a0_0 a0_1 ((rd_T62 x3_1 x10_1).f0) ((rd_T62 x3_1 x10_1).f1) _ _ ((rd_T62 x3_1 x10_1).f2) ((rd_T80 l1 a2).f0) ((rd_T80 l1 a2).f1) ((rd_T80 l1 a2).f2) false _ ?side1 ?side2 A27.out).mono ?_
                          (case side1 => repeat (first | exact (by repeat (first | (with_reducible exact HR599_2.out) | (with_reducible refine Kd.C_alloc ?_ _) | (with_reducible refine Kd.C_drewN ?_ _) | (with_reducible refine Kd.C_drew ?_) | exact HR599_2.out)) | (with_reducible refine Kd.C_alloc ?_ _) | (with_reducible refine Kd.C_drewN ?_ _) | (with_reducible refine Kd.C_drew ?_)))
                          (case side2 => exact HC599_2.out)
                          rintro e w47 ⟨rfl, hb⟩
                          have HS2_ := (hb.cell (World.block_lt_of_cell? _ _ (hHeld.2.2.1))).trans (hHeld.2.2.1)
                          have HS3_ := (hb.cell (World.block_lt_of_cell? _ _ (hHeld.2.2.2.1))).trans (hHeld.2.2.2.1)
                          have HS4_ := (hb.cell (World.block_lt_of_cell? _ _ (hHeld.2.2.2.2.1))).trans (hHeld.2.2.2.2.1)
                          refine ⟨_, rfl, ?_⟩
                          have n0_ := Aside0.mk (Kd.V_below (by (with_reducible repeat (first | apply Kd.V_alloc | apply Kd.V_drewN | apply Kd.V_drew)); exact HO_3.out) hb)
                          have n1_ := Aside0.mk (Kd.V_below (by (with_reducible repeat (first | apply Kd.V_alloc | apply Kd.V_drewN | apply Kd.V_drew)); exact HL599_2.out) hb)
                          have n2_ := Aside0.mk (blk_below (g := gb582) (o := .cells #[.int .i64 a0_0, .int .i64 a0_1] 49 (0, 0)) (by (with_reducible repeat (first | refine blk_drewN ?_ _ | refine blk_drew ?_ | refine blk_alloc ?_ _)); exact BK582.out) hb)
                          have n3_ := Aside0.mk (Kd.C_below (by repeat (first | (with_reducible exact HR599_2.out) | (with_reducible refine Kd.C_alloc ?_ _) | (with_reducible refine Kd.C_drewN ?_ _) | (with_reducible refine Kd.C_drew ?_) | exact HR599_2.out)) hb)
                          have n4_ := Aside0.mk (below_step (by repeat (first | (with_reducible first | exact HB.out | apply below_alloc | apply pw_below_drewN | apply below_drew1 | refine below_set ?_ GE582.out) | exact HB.out)) hb)
                          clear HO_3
                          clear HL599_2
                          clear BK582
                          clear HR599_2
                          clear HB
                          have HO_3 := n0_
                          have HL599_2 := n1_
                          have BK582 := n2_
                          have HR599_2 := n3_
                          have HB := n4_
                          clear n0_ n1_ n2_ n3_ n4_
                          (try clear hb)
                          (try clear hb2)
                          (try clear hk)
                          (try clear hi)
                          refine hK.out _ _ ⟨(blk_cell BK582.out 0).trans rfl, (blk_cell BK582.out 1).trans rfl, HS2_, HS3_, HS4_, ((HB.out.cell (World.block_lt_of_cell? w _ hw600_0)).trans hw600_0), ((HB.out.cell (World.block_lt_of_cell? w _ hw600_1)).trans hw600_1), ((HB.out.cell (World.block_lt_of_cell? w _ hw600_2)).trans hw600_2)⟩ (fun hHeld => ?_)
                          clear hK K
                          refine norm_ (a' := ?_) ?_ ?_
                          rotate_left
                          · show Act.put _ (some 49) _ = _
                            simp only [Act.put, List.setIfInBounds_toArray, List.set_cons_zero, List.set_cons_succ, i64_w, i32_w]
                            rfl
                          refine done_ (done_of HT_.out (by kernel_rfl)) ?_
                          try go_wp2
                          (try simp only [← hl3_1])
                          go_roundg k1
                          case measure => have := HK1.out; omega
                          case rel => exact ⟨(x3_1), (x9_1), (wrap64 (x10_1 + 1)), (by first | rfl | (simp; done) | (simp [*]; done)), (by first | rfl | (simp; done) | (simp [*]; done)), H', ⟨by have := HK1.out; omega⟩, ⟨by (try simp only [hl3_1]); (with_reducible repeat (first | apply Kd.V_alloc | apply Kd.V_drewN | apply Kd.V_drew)); exact HO_3.out⟩, ⟨by (try simp only [hl3_1]); (with_reducible repeat (first | refine blk_drewN ?_ _ | refine blk_drew ?_ | refine blk_alloc ?_ _)); exact BK582.out⟩, ⟨by repeat (first | (with_reducible first | exact HB.out | apply below_alloc | apply pw_below_drewN | apply below_drew1 | refine below_set ?_ GE582.out) | exact HB.out)⟩⟩
                      · rw [if_neg c26] at H
                        exact absurd H (by simp)
                    · rw [if_neg c25] at H
                      exact absurd H (by simp)
                  · rw [if_neg c24] at H
                    exact absurd H (by simp)
                · rw [if_neg c23] at H
                  have c23b0 : decide (x10_1 < (x3_1.length : Int)) = false := decide_eq_false c23
                  clear c23
                  obtain rfl := Option.some.inj H
                  go_wp2
                  go_ret
                  exact ⟨by first | rfl | (simp [errW_none, errW_some] <;> rfl) | (simp [*, errW_none, errW_some] <;> rfl), by repeat (first | (with_reducible first | exact HB.out | apply below_alloc | apply pw_below_drewN | apply below_drew1 | refine below_set ?_ GE582.out) | exact HB.out)⟩
          · rw [if_neg c11] at H
            exact absurd H (by simp)
        · rw [if_neg c9] at H
          exact absurd H (by simp)
      · rw [if_neg c8] at H
        exact absurd H (by simp)
    · rw [if_neg c7] at H
      exact absurd H (by simp)

end Go.Proofs.Ytnldmnlfocigaaa.F

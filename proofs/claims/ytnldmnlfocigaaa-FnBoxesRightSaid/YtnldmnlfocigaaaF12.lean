-- PRINTED by print.py (a twelfth state) out of the translation. Not trusted: Lean checks it.
import Derived.Test.YtnldmnlfocigaaaF
import Derived.Test.YtnldmnlfocigaaaF28
import Derived.Test.YtnldmnlfocigaaaF35
import Derived.Test.YtnldmnlfocigaaaF51
import Derived.Test.YtnldmnlfocigaaaF52
import Derived.Test.YtnldmnlfocigaaaF42
import Derived.Test.YtnldmnlfocigaaaF43
import Derived.Test.YtnldmnlfocigaaaF50
namespace Go.Proofs.Ytnldmnlfocigaaa.F
open Go.Proofs.Ytnldmnlfocigaaa.Opn
open Go.RowKit Go.Proofs.YtnldmnlfocigaaaW.PrintWords Go.Proofs.YtnldmnlfocigaaaW.PrintLast
set_option linter.unusedVariables false
set_option linter.unusedSimpArgs false

theorem zf12_13 {p : Prop} (h : p := by first | rfl | (simp; done) | (simp [*]; done)) : p := h
theorem zf12_12 {p : Prop} (h : p := by first | exact q960 | exact of_decide_eq_true zf12_5 | (have e_ := (Kd.N_reads' HO_5.out).1; omega)) : p := h
theorem zf12_11 {p : Prop} (h : p := by (with_reducible repeat (first | apply Kd.N_alloc | apply Kd.N_drewN | apply Kd.N_drew)); exact HO_5.out) : p := h
theorem zf12_10 {p : Prop} (h : p := by (with_reducible repeat (first | apply Kd.R_alloc | apply Kd.R_drewN | apply Kd.R_drew)); exact HO_4.out) : p := h
theorem zf12_9 {p : Prop} (h : p := by first | exact q959 | exact of_decide_eq_true zf12_5 | (have e_ := (Kd.N_reads' HO_5.out).1; omega)) : p := h
theorem zf12_8 {p : Prop} (h : p := by (with_reducible repeat (first | refine blk_drewN ?_ _ | refine blk_drew ?_ | refine blk_alloc ?_ _)); exact BK955.out) : p := h
theorem zf12_7 {p : Prop} (h : p := by (with_reducible repeat (first | apply Kd.N_alloc | apply Kd.N_drewN | apply Kd.N_drew)); exact HO954.out) : p := h
theorem zf12_6 {p : Prop} (h : p := by (with_reducible repeat (first | apply Kd.R_alloc | apply Kd.R_drewN | apply Kd.R_drew)); exact HO951.out) : p := h
theorem zf12_5 {p : Prop} (h : p := by first | (with_reducible assumption) | assumption) : p := h
theorem zf12_4 {p : Prop} (h : p := by (with_reducible repeat (first | refine blk_drewN ?_ _ | refine blk_drew ?_ | refine blk_alloc ?_ _)); refine blk_put (cs := #[.int .i64 t947, .int .i64 0]) ?_ 1 _ rfl; (with_reducible repeat (first | refine blk_drewN ?_ _ | refine blk_drew ?_ | refine blk_alloc ?_ _)); refine blk_put (cs := #[.int .i64 0, .int .i64 0]) ?_ 0 _ rfl; (with_reducible repeat (first | refine blk_drewN ?_ _ | refine blk_drew ?_ | refine blk_alloc ?_ _)); exact BK955.out) : p := h
theorem zf12_3 {p : Prop} (h : p := by repeat (first | (with_reducible first | exact HB.out | apply below_alloc | apply pw_below_drewN | apply below_drew1 | refine below_set ?_ GE955.out) | exact HB.out)) : p := h
theorem zf12_2 {p : Prop} (h : p := by (with_reducible repeat (first | apply Kd.R_alloc | apply Kd.R_drewN | apply Kd.R_drew)); exact (Kd.R_mono (Kd.R_far (p := ⟨gb955, 1, none⟩) (Kd.R_far (p := ⟨gb955, 0, none⟩) (Kd.R_types HO951.out BK955.out (by decide)) (fun _ hk => hk.2) (.int .i64 t947)) (fun _ hk => hk.2) (.int .i64 t948)) (fun _ h_ => h_.1))) : p := h
theorem zf12_1 {p : Prop} (h : p := by (with_reducible repeat (first | apply Kd.N_alloc | apply Kd.N_drewN | apply Kd.N_drew)); exact (Kd.N_mono (Kd.N_far (p := ⟨gb955, 1, none⟩) (Kd.N_far (p := ⟨gb955, 0, none⟩) (Kd.N_mono HO954.out (fun k_ hk => (⟨hk, hk.2⟩ : _ ∧ k_ ≠ gb955))) (fun _ hk => hk.2) (.int .i64 t947)) (fun _ hk => hk.2) (.int .i64 t948)) (fun _ h_ => h_.1))) : p := h
theorem zf12_0 {p : Prop} (h : p := by repeat (first | (with_reducible first | exact HB.out | apply below_alloc | apply pw_below_drewN | apply below_drew1) | exact HB.out)) : p := h
/-! ### laws_FnBoxesRight: function 12 -/
def laws_FnBoxesRight.l0 : Nat → List (S80) → List (S62) → Int → Int → Int → Int → Option (Bool)
 | 0, _, _, _, _, _, _ => none
 | k + 1, x4, x5, x7, x8, x956000, x956001 => if x8 < (x5.length : Int) then (if 0 ≤ x8 then (if (((rd_T62 x5 x8).f2).length : Int) > x956001 then (some false) else (if ((rd_T62 x5 x8).f1) > x956000 then (some false) else (if (((rd_T62 x5 x8).f2).length : Int) = 0 then (some false) else (laws_FnBoxesRight.l0 k x4 x5 (wrap64 (x7 + (((rd_T62 x5 x8).f2).length : Int))) (wrap64 (x8 + 1)) x956000 x956001)))) else (none)) else (if x7 = (x4.length : Int) then ((impl_LimitsOk.f x956000 x956001).bind fun t963 => (if t963 = true then ((impl_PiecesOk.f k x4).bind fun t964 => (some t964)) else (some false))) else (some false))
def laws_FnBoxesRight.f (k : Nat) (l0 : List Int) : Option (Bool) := (laws_big.f l0).bind fun t946 => (if t946 = true then (some true) else ((spec_DrawBoxesOk.f k l0).bind fun bt947 => ((impl_BoxesOk.f k bt947.1 bt947.2.1 bt947.2.2.1 bt947.2.2.2).bind fun t956 => ((spec_BoxesOk.f k bt947.1 bt947.2.1 bt947.2.2.1 bt947.2.2.2).bind fun t957 => (if (t956 != t957) = true then (some false) else (if t956 = true then (laws_FnBoxesRight.l0 k bt947.2.2.1 bt947.2.2.2 0 0 bt947.1 bt947.2.1) else (if (bt947.2.2.2.length : Int) > 0 then (some true) else (if (bt947.2.2.1.length : Int) > 0 then (some true) else ((spec_LimitsOk.f bt947.1 bt947.2.1).bind fun t958 => (some (!t958)))))))))))
theorem laws_FnBoxesRight.mono_l : ∀ k, (∀ y0 y1 y2 y3 y4 y5, LeO (laws_FnBoxesRight.l0 k y0 y1 y2 y3 y4 y5) (laws_FnBoxesRight.l0 (k + 1) y0 y1 y2 y3 y4 y5))
 | 0 => fun _ _ _ _ _ _ r h => by simp [laws_FnBoxesRight.l0] at h
 | k + 1 => by
  have ih0 := laws_FnBoxesRight.mono_l k
  ·
   intro y0 y1 y2 y3 y4 y5
   unfold laws_FnBoxesRight.l0
   repeat' first
   | (with_reducible exact ih0 _ _ _ _ _ _)
   | (with_reducible exact impl_BoxesOk.mono _ _ _ _ _)
   | (with_reducible exact impl_PiecesOk.mono _ _)
   | (with_reducible exact spec_BoxesOk.mono _ _ _ _ _)
   | (with_reducible exact spec_DrawBoxesOk.mono _ _)
   | (with_reducible exact LeO.refl _)
   | (with_reducible exact LeO.none _)
   | (with_reducible refine LeO.ite ?_ ?_)
   | (with_reducible refine LeO.bind ?_ (fun _ => ?_))
   | exact ih0 _ _ _ _ _ _
   | exact impl_BoxesOk.mono _ _ _ _ _
   | exact impl_PiecesOk.mono _ _
   | exact spec_BoxesOk.mono _ _ _ _ _
   | exact spec_DrawBoxesOk.mono _ _
   | exact LeO.none _
   | refine LeO.ite ?_ ?_
   | refine LeO.bind ?_ (fun _ => ?_)
theorem laws_FnBoxesRight.mono : ∀ a0 k, LeO (laws_FnBoxesRight.f k a0) (laws_FnBoxesRight.f (k + 1) a0) := by
 intro a0 k
 have ih0 := laws_FnBoxesRight.mono_l k
 unfold laws_FnBoxesRight.f
 repeat' first
   | (with_reducible exact ih0 _ _ _ _ _ _)
   | (with_reducible exact impl_BoxesOk.mono _ _ _ _ _)
   | (with_reducible exact impl_PiecesOk.mono _ _)
   | (with_reducible exact spec_BoxesOk.mono _ _ _ _ _)
   | (with_reducible exact spec_DrawBoxesOk.mono _ _)
   | (with_reducible exact LeO.refl _)
   | (with_reducible exact LeO.none _)
   | (with_reducible refine LeO.ite ?_ ?_)
   | (with_reducible refine LeO.bind ?_ (fun _ => ?_))
   | exact ih0 _ _ _ _ _ _
   | exact impl_BoxesOk.mono _ _ _ _ _
   | exact impl_PiecesOk.mono _ _
   | exact spec_BoxesOk.mono _ _ _ _ _
   | exact spec_DrawBoxesOk.mono _ _
   | exact LeO.none _
   | refine LeO.ite ?_ ?_
   | refine LeO.bind ?_ (fun _ => ?_)
set_option maxHeartbeats 8000000 in
set_option maxRecDepth 100000 in
theorem laws_FnBoxesRight.calls (k : Nat) (A0 : Option Addr) (c0 : Nat) (l0 : List Int) (r : Bool) (w : World) (hr0 : Kd.C (Kd.int .u8) w A0 l0.length l0) (hc0 : l0.length ≤ c0) (h : laws_FnBoxesRight.f k l0 = some r) :
  Calls Try.prog 12 #[.slice A0 l0.length c0] w fun e w' => e = .returned (.bool r) ∧ Below w.heap.size w w' := by
 have hu49 := Try.underlying49
 have HR0 := Aside0.mk hr0
 have HC0 := Aside0.mk hc0
 clear hr0 hc0
 have HB := Aside0.mk (Below.refl w.heap.size w)
 have H : ((laws_big.f l0).bind fun t946 => (if t946 = true then (some true) else ((spec_DrawBoxesOk.f k l0).bind fun bt947 => ((impl_BoxesOk.f k bt947.1 bt947.2.1 bt947.2.2.1 bt947.2.2.2).bind fun t956 => ((spec_BoxesOk.f k bt947.1 bt947.2.1 bt947.2.2.1 bt947.2.2.2).bind fun t957 => (if (t956 != t957) = true then (some false) else (if t956 = true then (laws_FnBoxesRight.l0 k bt947.2.2.1 bt947.2.2.2 0 0 bt947.1 bt947.2.1) else (if (bt947.2.2.2.length : Int) > 0 then (some true) else (if (bt947.2.2.1.length : Int) > 0 then (some true) else ((spec_LimitsOk.f bt947.1 bt947.2.1).bind fun t958 => (some (!t958)))))))))))) = some r := h
 clear h
 replace H := Option.bind_eq_some_iff.mp H
 obtain ⟨t946, A20, H⟩ := H
 replace H : (if t946 = true then (some true) else ((spec_DrawBoxesOk.f k l0).bind fun bt947 => ((impl_BoxesOk.f k bt947.1 bt947.2.1 bt947.2.2.1 bt947.2.2.2).bind fun t956 => ((spec_BoxesOk.f k bt947.1 bt947.2.1 bt947.2.2.1 bt947.2.2.2).bind fun t957 => (if (t956 != t957) = true then (some false) else (if t956 = true then (laws_FnBoxesRight.l0 k bt947.2.2.1 bt947.2.2.2 0 0 bt947.1 bt947.2.1) else (if (bt947.2.2.2.length : Int) > 0 then (some true) else (if (bt947.2.2.1.length : Int) > 0 then (some true) else ((spec_LimitsOk.f bt947.1 bt947.2.1).bind fun t958 => (some (!t958))))))))))) = some r := H
 have A2 := Aside0.mk A20
 clear A20
 by_cases c3 : t946 = true
 ·
  subst c3
  have H1 : (some true) = some r := by rw [if_pos rfl] at H; exact H
  clear H
  have H := H1
  clear H1
  obtain rfl := Option.some.inj H
  go_enter Try.func12, Try.ntmps12
  go_wp2_with (go_at_call 28; (with_reducible refine (laws_big.calls _ _ l0 true _ ?side1 ?side2 A2.out).mono ?_); (case side1 => repeat (first | exact HR0.out | (with_reducible refine Kd.C_alloc ?_ _) | (with_reducible refine Kd.C_drewN ?_ _) | (with_reducible refine Kd.C_drew ?_))); (case side2 => exact HC0.out); rintro e w' ⟨rfl, ⟨nd, rfl⟩⟩; (try first | exact ⟨rfl, _, World.drewN_drewN _ _ _⟩ | exact ⟨rfl, _, Eq.trans (World.drewN_drewN _ _ _) (congrArg (World.drewN _) (Nat.add_assoc _ _ _))⟩))
  go_ret
  exact ⟨by first | rfl | (simp [errW_none, errW_some] <;> rfl) | (simp [*, errW_none, errW_some] <;> rfl), by repeat (first | (with_reducible first | exact HB.out | apply below_alloc | apply pw_below_drewN | apply below_drew1) | exact HB.out)⟩
 ·
  replace c3 := Bool.eq_false_iff.mpr c3
  subst c3
  have H1 : ((spec_DrawBoxesOk.f k l0).bind fun bt947 => ((impl_BoxesOk.f k bt947.1 bt947.2.1 bt947.2.2.1 bt947.2.2.2).bind fun t956 => ((spec_BoxesOk.f k bt947.1 bt947.2.1 bt947.2.2.1 bt947.2.2.2).bind fun t957 => (if (t956 != t957) = true then (some false) else (if t956 = true then (laws_FnBoxesRight.l0 k bt947.2.2.1 bt947.2.2.2 0 0 bt947.1 bt947.2.1) else (if (bt947.2.2.2.length : Int) > 0 then (some true) else (if (bt947.2.2.1.length : Int) > 0 then (some true) else ((spec_LimitsOk.f bt947.1 bt947.2.1).bind fun t958 => (some (!t958)))))))))) = some r := by rw [if_neg (show ¬ (false = true) by decide)] at H; exact H
  clear H
  have H := H1
  clear H1
  replace H := Option.bind_eq_some_iff.mp H
  obtain ⟨⟨t947, t948, t949, t952⟩, A40, H⟩ := H
  replace H : ((impl_BoxesOk.f k t947 t948 t949 t952).bind fun t956 => ((spec_BoxesOk.f k t947 t948 t949 t952).bind fun t957 => (if (t956 != t957) = true then (some false) else (if t956 = true then (laws_FnBoxesRight.l0 k t949 t952 0 0 t947 t948) else (if (t952.length : Int) > 0 then (some true) else (if (t949.length : Int) > 0 then (some true) else ((spec_LimitsOk.f t947 t948).bind fun t958 => (some (!t958))))))))) = some r := H
  have A4 := Aside0.mk A40
  clear A40
  replace H := Option.bind_eq_some_iff.mp H
  obtain ⟨t956, A50, H⟩ := H
  replace H : ((spec_BoxesOk.f k t947 t948 t949 t952).bind fun t957 => (if (t956 != t957) = true then (some false) else (if t956 = true then (laws_FnBoxesRight.l0 k t949 t952 0 0 t947 t948) else (if (t952.length : Int) > 0 then (some true) else (if (t949.length : Int) > 0 then (some true) else ((spec_LimitsOk.f t947 t948).bind fun t958 => (some (!t958)))))))) = some r := H
  have A5 := Aside0.mk A50
  clear A50
  replace H := Option.bind_eq_some_iff.mp H
  obtain ⟨t957, A60, H⟩ := H
  replace H : (if (t956 != t957) = true then (some false) else (if t956 = true then (laws_FnBoxesRight.l0 k t949 t952 0 0 t947 t948) else (if (t952.length : Int) > 0 then (some true) else (if (t949.length : Int) > 0 then (some true) else ((spec_LimitsOk.f t947 t948).bind fun t958 => (some (!t958))))))) = some r := H
  have A6 := Aside0.mk A60
  clear A60
  by_cases c7 : (t956 != t957) = true
  ·
   rw [if_pos c7] at H
   have c7b0 : (t956 != t957) = true := c7
   (try (have c7b1 : decide (t956 = t957) = false := by simpa using c7))
   (try (have c7b2 : (t956 == t957) = false := by simpa using c7))
   (try (have c7b3 : ¬ (t956 = t957) := by simpa using c7))
   clear c7
   obtain rfl := Option.some.inj H
   go_enter Try.func12, Try.ntmps12
   go_wp2_with (first | (go_at_call 28; (with_reducible refine (laws_big.calls _ _ l0 false _ ?side1 ?side2 A2.out).mono ?_); (case side1 => repeat (first | exact HR0.out | (with_reducible refine Kd.C_alloc ?_ _) | (with_reducible refine Kd.C_drewN ?_ _) | (with_reducible refine Kd.C_drew ?_))); (case side2 => exact HC0.out); rintro e w' ⟨rfl, ⟨nd, rfl⟩⟩; (try first | exact ⟨rfl, _, World.drewN_drewN _ _ _⟩ | exact ⟨rfl, _, Eq.trans (World.drewN_drewN _ _ _) (congrArg (World.drewN _) (Nat.add_assoc _ _ _))⟩)) | (go_at_call 50; (with_reducible refine (spec_DrawBoxesOk.calls k _ _ l0 t947 t948 t949 t952 _ ?side1 ?side2 A4.out).mono ?_); (case side1 => repeat (first | exact HR0.out | (with_reducible refine Kd.C_alloc ?_ _) | (with_reducible refine Kd.C_drewN ?_ _) | (with_reducible refine Kd.C_drew ?_))); (case side2 => exact HC0.out); rintro e w8 ⟨v950, v953, rfl, ho0, ho1, hb⟩; have n0_ := Aside0.mk (Kd.R_lower (Kd.R_mono (ok' := fun k_ => True) ho0 (fun _ hk_ => trivial)) (below_size zf12_0)); have n1_ := Aside0.mk (Kd.N_lower (Kd.N_mono (ok' := fun k_ => some k_ ≠ (v950 : Value).ownBlock) ho1 (fun k_ hk_ => hk_.2)) (below_size zf12_0)); have n2_ := Aside0.mk (below_step zf12_0 hb); clear HB; have HO951 := n0_; have HO954 := n1_; have HB := n2_; clear n0_ n1_ n2_; (try clear hb); (try clear hb2); (try clear hk); (try clear hi); (try clear ho0); (try clear ho1)) | ((with_reducible refine gate_dst (N := 3) rfl ?_); (try (refine gate_guard (by rfl) ?_; dsimp only)); refine box_event ?hg (N := 3) ?hd (cs := #[.int .i64 0, .int .i64 0]) (t := 49) ?hr ?_; (case hd => rfl); (case hg => rfl); (case hr => first | (go_simp; done) | (go_simp; rfl)); intro gb955 hg w9 hbox hb; have n0_ := Aside0.mk (Kd.R_below zf12_6 hb); have n1_ := Aside0.mk (Kd.N_below (Kd.N_elderB zf12_7 gb955 (Nat.le_of_eq hg.symm)) hb); have n2_ := Aside0.mk (below_step zf12_0 hb); have n3_ := Aside0.mk (hbox); have n4_ := Aside0.mk ((by rw [hg]; exact (below_size zf12_0) : w.heap.size ≤ gb955)); have n5_ := Aside0.mk ((by rw [hg]; exact (below_size zf12_0) : w.heap.size ≤ gb955)); clear HO951; clear HO954; clear HB; have HO951 := n0_; have HO954 := n1_; have HB := n2_; have BK955 := n3_; have GW955 := n4_; have GE955 := n5_; clear n0_ n1_ n2_ n3_ n4_ n5_; clear hb hbox hg; have hcz10_0 : w9.cell? ⟨gb955, 0, none⟩ = some (.int .i64 0) := (blk_cell BK955.out 0).trans rfl; have hcz10_1 : w9.cell? ⟨gb955, 1, none⟩ = some (.int .i64 0) := (blk_cell BK955.out 1).trans rfl; have hfz10_0 := blk_frozen BK955.out 0; have hfz10_1 := blk_frozen BK955.out 1; obtain ⟨Ao11, co11, eo11⟩ := Kd.R_slice HO951.out; subst eo11; obtain ⟨Ao12, co12, eo12⟩ := Kd.N_slice HO954.out; subst eo12) | (go_at_call 43; (with_reducible refine (impl_BoxesOk.calls k t947 t948 _ _ t949 _ _ t952 t956 _ ?side1 ?side2 ?side3 ?side4 A5.out).mono ?_); (case side1 => refine (Kd.R_reads' (e := 80) (base := w.heap.size) (ok := fun k_ => True) (n := t949.length) (c := co11) ?_).2.2; exact zf12_2); (case side2 => exact (Kd.R_reads' HO951.out).2.1); (case side3 => refine (Kd.N_reads' (e := 62) (base := w.heap.size) (ok := fun k_ => (some k_ ≠ (.slice Ao11 t949.length co11 : Value).ownBlock ∧ k_ ≠ gb955)) (n := t952.length) (c := co12) ?_).2.2; exact zf12_1); (case side4 => exact (Kd.N_reads' HO954.out).2.1); rintro e w13 ⟨rfl, hb⟩; have n0_ := Aside0.mk (Kd.R_below zf12_2 hb); have n1_ := Aside0.mk (Kd.N_below zf12_1 hb); have n2_ := Aside0.mk (blk_below (g := gb955) (o := .cells #[.int .i64 t947, .int .i64 t948] 49 (0, 0)) zf12_4 hb); have n3_ := Aside0.mk (below_step zf12_3 hb); clear HO951; clear HO954; clear BK955; clear HB; have HO951 := n0_; have HO954 := n1_; have BK955 := n2_; have HB := n3_; clear n0_ n1_ n2_ n3_; (try clear hb); (try clear hb2); (try clear hk); (try clear hi); have hcz14_0 : w13.cell? ⟨gb955, 0, none⟩ = some (.int .i64 t947) := (blk_cell BK955.out 0).trans rfl; have hcz14_1 : w13.cell? ⟨gb955, 1, none⟩ = some (.int .i64 t948) := (blk_cell BK955.out 1).trans rfl; have hfz14_0 := blk_frozen BK955.out 0; have hfz14_1 := blk_frozen BK955.out 1) | (go_at_call 42; (with_reducible refine (spec_BoxesOk.calls k t947 t948 _ _ t949 _ _ t952 t957 _ ?side1 ?side2 ?side3 ?side4 A6.out).mono ?_); (case side1 => repeat (first | exact (Kd.R_reads' HO951.out).2.2 | (with_reducible refine Kd.C_alloc ?_ _) | (with_reducible refine Kd.C_drewN ?_ _) | (with_reducible refine Kd.C_drew ?_))); (case side2 => exact (Kd.R_reads' HO951.out).2.1); (case side3 => repeat (first | exact (Kd.N_reads' HO954.out).2.2 | (with_reducible refine Kd.C_alloc ?_ _) | (with_reducible refine Kd.C_drewN ?_ _) | (with_reducible refine Kd.C_drew ?_))); (case side4 => exact (Kd.N_reads' HO954.out).2.1); rintro e w15 ⟨rfl, hb⟩; have n0_ := Aside0.mk (Kd.R_below zf12_6 hb); have n1_ := Aside0.mk (Kd.N_below zf12_7 hb); have n2_ := Aside0.mk (blk_below (g := gb955) (o := .cells #[.int .i64 t947, .int .i64 t948] 49 (0, 0)) zf12_8 hb); have n3_ := Aside0.mk (below_step zf12_3 hb); clear HO951; clear HO954; clear BK955; clear HB; have HO951 := n0_; have HO954 := n1_; have BK955 := n2_; have HB := n3_; clear n0_ n1_ n2_ n3_; (try clear hb); (try clear hb2); (try clear hk); (try clear hi)))
   go_ret
   exact ⟨by first | rfl | (simp [errW_none, errW_some] <;> rfl) | (simp [*, errW_none, errW_some] <;> rfl), by repeat (first | (with_reducible first | exact HB.out | apply below_alloc | apply pw_below_drewN | apply below_drew1 | refine below_set ?_ GE955.out) | exact HB.out)⟩
  ·
   rw [if_neg c7] at H
   have c7b0 : (t956 != t957) = false := by simpa using c7
   (try (have c7b1 : decide (t956 = t957) = true := by simpa using c7))
   (try (have c7b2 : (t956 == t957) = true := by simpa using c7))
   clear c7
   by_cases c16 : t956 = true
   ·
    subst c16
    have H1 : (laws_FnBoxesRight.l0 k t949 t952 0 0 t947 t948) = some r := by rw [if_pos rfl] at H; exact H
    clear H
    have H := H1
    clear H1
    have H' := Aside0.mk H
    clear H
    go_enter Try.func12, Try.ntmps12
    go_wp2_with (first | (go_at_call 28; (with_reducible refine (laws_big.calls _ _ l0 false _ ?side1 ?side2 A2.out).mono ?_); (case side1 => repeat (first | exact HR0.out | (with_reducible refine Kd.C_alloc ?_ _) | (with_reducible refine Kd.C_drewN ?_ _) | (with_reducible refine Kd.C_drew ?_))); (case side2 => exact HC0.out); rintro e w' ⟨rfl, ⟨nd, rfl⟩⟩; (try first | exact ⟨rfl, _, World.drewN_drewN _ _ _⟩ | exact ⟨rfl, _, Eq.trans (World.drewN_drewN _ _ _) (congrArg (World.drewN _) (Nat.add_assoc _ _ _))⟩)) | (go_at_call 50; (with_reducible refine (spec_DrawBoxesOk.calls k _ _ l0 t947 t948 t949 t952 _ ?side1 ?side2 A4.out).mono ?_); (case side1 => repeat (first | exact HR0.out | (with_reducible refine Kd.C_alloc ?_ _) | (with_reducible refine Kd.C_drewN ?_ _) | (with_reducible refine Kd.C_drew ?_))); (case side2 => exact HC0.out); rintro e w17 ⟨v950, v953, rfl, ho0, ho1, hb⟩; have n0_ := Aside0.mk (Kd.R_lower (Kd.R_mono (ok' := fun k_ => True) ho0 (fun _ hk_ => trivial)) (below_size zf12_0)); have n1_ := Aside0.mk (Kd.N_lower (Kd.N_mono (ok' := fun k_ => some k_ ≠ (v950 : Value).ownBlock) ho1 (fun k_ hk_ => hk_.2)) (below_size zf12_0)); have n2_ := Aside0.mk (below_step zf12_0 hb); clear HB; have HO951 := n0_; have HO954 := n1_; have HB := n2_; clear n0_ n1_ n2_; (try clear hb); (try clear hb2); (try clear hk); (try clear hi); (try clear ho0); (try clear ho1)) | ((with_reducible refine gate_dst (N := 3) rfl ?_); (try (refine gate_guard (by rfl) ?_; dsimp only)); refine box_event ?hg (N := 3) ?hd (cs := #[.int .i64 0, .int .i64 0]) (t := 49) ?hr ?_; (case hd => rfl); (case hg => rfl); (case hr => first | (go_simp; done) | (go_simp; rfl)); intro gb955 hg w18 hbox hb; have n0_ := Aside0.mk (Kd.R_below zf12_6 hb); have n1_ := Aside0.mk (Kd.N_below (Kd.N_elderB zf12_7 gb955 (Nat.le_of_eq hg.symm)) hb); have n2_ := Aside0.mk (below_step zf12_0 hb); have n3_ := Aside0.mk (hbox); have n4_ := Aside0.mk ((by rw [hg]; exact (below_size zf12_0) : w.heap.size ≤ gb955)); have n5_ := Aside0.mk ((by rw [hg]; exact (below_size zf12_0) : w.heap.size ≤ gb955)); clear HO951; clear HO954; clear HB; have HO951 := n0_; have HO954 := n1_; have HB := n2_; have BK955 := n3_; have GW955 := n4_; have GE955 := n5_; clear n0_ n1_ n2_ n3_ n4_ n5_; clear hb hbox hg; have hcz19_0 : w18.cell? ⟨gb955, 0, none⟩ = some (.int .i64 0) := (blk_cell BK955.out 0).trans rfl; have hcz19_1 : w18.cell? ⟨gb955, 1, none⟩ = some (.int .i64 0) := (blk_cell BK955.out 1).trans rfl; have hfz19_0 := blk_frozen BK955.out 0; have hfz19_1 := blk_frozen BK955.out 1; obtain ⟨Ao20, co20, eo20⟩ := Kd.R_slice HO951.out; subst eo20; obtain ⟨Ao21, co21, eo21⟩ := Kd.N_slice HO954.out; subst eo21) | (go_at_call 43; (with_reducible refine (impl_BoxesOk.calls k t947 t948 _ _ t949 _ _ t952 true _ ?side1 ?side2 ?side3 ?side4 A5.out).mono ?_); (case side1 => refine (Kd.R_reads' (e := 80) (base := w.heap.size) (ok := fun k_ => True) (n := t949.length) (c := co20) ?_).2.2; exact zf12_2); (case side2 => exact (Kd.R_reads' HO951.out).2.1); (case side3 => refine (Kd.N_reads' (e := 62) (base := w.heap.size) (ok := fun k_ => (some k_ ≠ (.slice Ao20 t949.length co20 : Value).ownBlock ∧ k_ ≠ gb955)) (n := t952.length) (c := co21) ?_).2.2; exact zf12_1); (case side4 => exact (Kd.N_reads' HO954.out).2.1); rintro e w22 ⟨rfl, hb⟩; have n0_ := Aside0.mk (Kd.R_below zf12_2 hb); have n1_ := Aside0.mk (Kd.N_below zf12_1 hb); have n2_ := Aside0.mk (blk_below (g := gb955) (o := .cells #[.int .i64 t947, .int .i64 t948] 49 (0, 0)) zf12_4 hb); have n3_ := Aside0.mk (below_step zf12_3 hb); clear HO951; clear HO954; clear BK955; clear HB; have HO951 := n0_; have HO954 := n1_; have BK955 := n2_; have HB := n3_; clear n0_ n1_ n2_ n3_; (try clear hb); (try clear hb2); (try clear hk); (try clear hi); have hcz23_0 : w22.cell? ⟨gb955, 0, none⟩ = some (.int .i64 t947) := (blk_cell BK955.out 0).trans rfl; have hcz23_1 : w22.cell? ⟨gb955, 1, none⟩ = some (.int .i64 t948) := (blk_cell BK955.out 1).trans rfl; have hfz23_0 := blk_frozen BK955.out 0; have hfz23_1 := blk_frozen BK955.out 1) | (go_at_call 42; (with_reducible refine (spec_BoxesOk.calls k t947 t948 _ _ t949 _ _ t952 t957 _ ?side1 ?side2 ?side3 ?side4 A6.out).mono ?_); (case side1 => repeat (first | exact (Kd.R_reads' HO951.out).2.2 | (with_reducible refine Kd.C_alloc ?_ _) | (with_reducible refine Kd.C_drewN ?_ _) | (with_reducible refine Kd.C_drew ?_))); (case side2 => exact (Kd.R_reads' HO951.out).2.1); (case side3 => repeat (first | exact (Kd.N_reads' HO954.out).2.2 | (with_reducible refine Kd.C_alloc ?_ _) | (with_reducible refine Kd.C_drewN ?_ _) | (with_reducible refine Kd.C_drew ?_))); (case side4 => exact (Kd.N_reads' HO954.out).2.1); rintro e w24 ⟨rfl, hb⟩; have n0_ := Aside0.mk (Kd.R_below zf12_6 hb); have n1_ := Aside0.mk (Kd.N_below zf12_7 hb); have n2_ := Aside0.mk (blk_below (g := gb955) (o := .cells #[.int .i64 t947, .int .i64 t948] 49 (0, 0)) zf12_8 hb); have n3_ := Aside0.mk (below_step zf12_3 hb); clear HO951; clear HO954; clear BK955; clear HB; have HO951 := n0_; have HO954 := n1_; have BK955 := n2_; have HB := n3_; clear n0_ n1_ n2_ n3_; (try clear hb); (try clear hb2); (try clear hk); (try clear hi)))
    (try simp only [Act.put, List.setIfInBounds_toArray, List.set_cons_zero, List.set_cons_succ])
    go_loopg [7, 8] k (fun kq v7 v8 w' => ∃ (x7_1 : Int) (x8_1 : Int), v7 = .int .i64 x7_1 ∧ v8 = .int .i64 x8_1 ∧ Aside0 (laws_FnBoxesRight.l0 kq t949 t952 x7_1 x8_1 t947 t948 = some r) ∧ Aside0 (kq ≤ k) ∧ Aside0 (Kd.R k80 80 w' w.heap.size (fun _ => True) (.slice Ao20 t949.length co20) t949) ∧ Aside0 (Kd.N k62 62 w' w.heap.size (fun k_ => some k_ ≠ ((.slice Ao20 t949.length co20) : Value).ownBlock ∧ k_ ≠ gb955) (.slice Ao21 t952.length co21) t952) ∧ Aside0 (w'.heap[gb955]? = some (.cells #[.int .i64 t947, .int .i64 t948] 49 (0, 0))) ∧ Aside0 (Below w.heap.size w w'))
    case atStart => exact ⟨(0), (0), zf12_13, zf12_13, H', ⟨Nat.le_refl _⟩, ⟨by (with_reducible repeat (first | apply Kd.R_alloc | apply Kd.R_drewN | apply Kd.R_drew)); exact HO951.out⟩, ⟨by (with_reducible repeat (first | apply Kd.N_alloc | apply Kd.N_drewN | apply Kd.N_drew)); exact HO954.out⟩, ⟨by (with_reducible repeat (first | refine blk_drewN ?_ _ | refine blk_drew ?_ | refine blk_alloc ?_ _)); exact BK955.out⟩, ⟨by repeat (first | (with_reducible first | exact HB.out | apply below_alloc | apply pw_below_drewN | apply below_drew1 | refine below_set ?_ GE955.out) | exact HB.out)⟩⟩
    case round =>
     clear H'
     try clear c1
     try clear p2
     try clear c3
     try clear c7
     try clear c7b0
     try clear c7b1
     try clear c7b2
     try clear c12
     try clear c16
     try clear hcz10_0
     try clear hcz10_1
     try clear hcz14_0
     try clear hcz14_1
     try clear hcz19_0
     try clear hcz19_1
     try clear hcz23_0
     try clear hcz23_1
     try clear hfz10_0
     try clear hfz10_1
     try clear hfz14_0
     try clear hfz14_1
     try clear hfz19_0
     try clear hfz19_1
     try clear hfz23_0
     try clear hfz23_1
     obtain ⟨x7_1, x8_1, rfl, rfl, HA, HK1, HO_4, HO_5, BK955, HB⟩ := hrel
     cases gk with
     | zero => exact absurd HA.out (by simp [laws_FnBoxesRight.l0])
     | succ k1 =>
      have H := HA.out
      clear HA
      simp only [laws_FnBoxesRight.l0] at H
      by_cases c25 : x8_1 < (t952.length : Int)
      ·
       rw [if_pos c25] at H
       have c25b0 : decide (x8_1 < (t952.length : Int)) = true := decide_eq_true c25
       clear c25
       by_cases c26 : 0 ≤ x8_1
       ·
        rw [if_pos c26] at H
        have c26b0 : decide (0 ≤ x8_1) = true := decide_eq_true c26
        clear c26
        by_cases c27 : (((rd_T62 t952 x8_1).f2).length : Int) > t948
        ·
         rw [if_pos c27] at H
         have c27b0 : decide (t948 < (((rd_T62 t952 x8_1).f2).length : Int)) = true := decide_eq_true c27
         clear c27
         obtain rfl := Option.some.inj H
         have p959 : 0 ≤ (x8_1 : Int) := of_decide_eq_true zf12_5
         have q959 : x8_1 < (t952.length : Int) := of_decide_eq_true zf12_5
         obtain ⟨ad959, A959_2, c959_2, e959, hx959_0, hx959_1, hx959_2, hl959_2, hi959_2⟩ := at_T62 (Kd.N_reads' HO_5.out).2.2 x8_1 p959 q959
         cases e959
         obtain ⟨ce959, hce959, hMe959, hcc959⟩ := Kd.N_get HO_5.out z62 x8_1 p959 zf12_9
         obtain ⟨ua959_2, uc959_2, rfl, ul959_2, ge959_2⟩ := k62_openF hMe959
         have hv959_2 := hcc959 2 _ rfl
         rw [add_field _ _ 2 (by omega)] at hv959_2
         replace hv959_2 := Option.some.inj (hv959_2.symm.trans hx959_2)
         injection hv959_2 with hva_ hvn_ hvc_
         rw [hva_] at ge959_2
         rw [hvc_] at ul959_2
         have HL959_2 := Aside0.mk (show Kd.V (Kd.int .i64) 3 _ w.heap.size _ _ ((rd_T62 t952 x8_1).f2) from Kd.V_mk ul959_2 ge959_2)
         clear hva_ hvn_ hvc_ ge959_2 ul959_2
         clear hcc959 hce959
         have HR959_2 := Aside0.mk hi959_2
         have HC959_2 := Aside0.mk hl959_2
         clear hi959_2 hl959_2
         replace p959 := eq_true p959
         replace q959 := eq_true q959
         have hcz28_0 : wr.cell? ⟨gb955, 0, none⟩ = some (.int .i64 t947) := (blk_cell BK955.out 0).trans rfl
         have hcz28_1 : wr.cell? ⟨gb955, 1, none⟩ = some (.int .i64 t948) := (blk_cell BK955.out 1).trans rfl
         have hfz28_0 := blk_frozen BK955.out 0
         have hfz28_1 := blk_frozen BK955.out 1
         go_wp2
         repeat (go_quiet (fail); try go_wp2)
         go_ret
         exact ⟨by first | rfl | (simp [errW_none, errW_some] <;> rfl) | (simp [*, errW_none, errW_some] <;> rfl), by repeat (first | (with_reducible first | exact HB.out | apply below_alloc | apply pw_below_drewN | apply below_drew1 | refine below_set ?_ GE955.out) | exact HB.out)⟩
        ·
         rw [if_neg c27] at H
         have c27b0 : decide (t948 < (((rd_T62 t952 x8_1).f2).length : Int)) = false := decide_eq_false c27
         clear c27
         by_cases c29 : ((rd_T62 t952 x8_1).f1) > t947
         ·
          rw [if_pos c29] at H
          have c29b0 : decide (t947 < ((rd_T62 t952 x8_1).f1)) = true := decide_eq_true c29
          clear c29
          obtain rfl := Option.some.inj H
          have p959 : 0 ≤ (x8_1 : Int) := of_decide_eq_true zf12_5
          have q959 : x8_1 < (t952.length : Int) := of_decide_eq_true zf12_5
          obtain ⟨ad959, A959_2, c959_2, e959, hx959_0, hx959_1, hx959_2, hl959_2, hi959_2⟩ := at_T62 (Kd.N_reads' HO_5.out).2.2 x8_1 p959 q959
          cases e959
          obtain ⟨ce959, hce959, hMe959, hcc959⟩ := Kd.N_get HO_5.out z62 x8_1 p959 zf12_9
          obtain ⟨ua959_2, uc959_2, rfl, ul959_2, ge959_2⟩ := k62_openF hMe959
          have hv959_2 := hcc959 2 _ rfl
          rw [add_field _ _ 2 (by omega)] at hv959_2
          replace hv959_2 := Option.some.inj (hv959_2.symm.trans hx959_2)
          injection hv959_2 with hva_ hvn_ hvc_
          rw [hva_] at ge959_2
          rw [hvc_] at ul959_2
          have HL959_2 := Aside0.mk (show Kd.V (Kd.int .i64) 3 _ w.heap.size _ _ ((rd_T62 t952 x8_1).f2) from Kd.V_mk ul959_2 ge959_2)
          clear hva_ hvn_ hvc_ ge959_2 ul959_2
          clear hcc959 hce959
          have HR959_2 := Aside0.mk hi959_2
          have HC959_2 := Aside0.mk hl959_2
          clear hi959_2 hl959_2
          replace p959 := eq_true p959
          replace q959 := eq_true q959
          have hcz30_0 : wr.cell? ⟨gb955, 0, none⟩ = some (.int .i64 t947) := (blk_cell BK955.out 0).trans rfl
          have hcz30_1 : wr.cell? ⟨gb955, 1, none⟩ = some (.int .i64 t948) := (blk_cell BK955.out 1).trans rfl
          have hfz30_0 := blk_frozen BK955.out 0
          have hfz30_1 := blk_frozen BK955.out 1
          have p960 : 0 ≤ (x8_1 : Int) := of_decide_eq_true zf12_5
          have q960 : x8_1 < (t952.length : Int) := of_decide_eq_true zf12_5
          obtain ⟨ad960, A960_2, c960_2, e960, hx960_0, hx960_1, hx960_2, hl960_2, hi960_2⟩ := at_T62 (Kd.N_reads' HO_5.out).2.2 x8_1 p960 q960
          obtain rfl : ad959 = ad960 := (by injection e960)
          obtain ⟨ce960, hce960, hMe960, hcc960⟩ := Kd.N_get HO_5.out z62 x8_1 p960 zf12_12
          obtain ⟨ua960_2, uc960_2, rfl, ul960_2, ge960_2⟩ := k62_openF hMe960
          have hv960_2 := hcc960 2 _ rfl
          rw [add_field _ _ 2 (by omega)] at hv960_2
          replace hv960_2 := Option.some.inj (hv960_2.symm.trans hx960_2)
          injection hv960_2 with hva_ hvn_ hvc_
          rw [hva_] at ge960_2
          rw [hvc_] at ul960_2
          have HL960_2 := Aside0.mk (show Kd.V (Kd.int .i64) 3 _ w.heap.size _ _ ((rd_T62 t952 x8_1).f2) from Kd.V_mk ul960_2 ge960_2)
          clear hva_ hvn_ hvc_ ge960_2 ul960_2
          clear hcc960 hce960
          have HR960_2 := Aside0.mk hi960_2
          have HC960_2 := Aside0.mk hl960_2
          clear hi960_2 hl960_2
          replace p960 := eq_true p960
          replace q960 := eq_true q960
          have ea_ := Option.some.inj (hx959_2.symm.trans hx960_2)
          injection ea_ with ea_ en_ ec_
          subst ea_
          subst ec_
          clear en_
          go_wp2
          repeat (go_quiet (fail); try go_wp2)
          go_ret
          exact ⟨by first | rfl | (simp [errW_none, errW_some] <;> rfl) | (simp [*, errW_none, errW_some] <;> rfl), by repeat (first | (with_reducible first | exact HB.out | apply below_alloc | apply pw_below_drewN | apply below_drew1 | refine below_set ?_ GE955.out) | exact HB.out)⟩
         ·
          rw [if_neg c29] at H
          have c29b0 : decide (t947 < ((rd_T62 t952 x8_1).f1)) = false := decide_eq_false c29
          clear c29
          by_cases c31 : (((rd_T62 t952 x8_1).f2).length : Int) = 0
          ·
           rw [if_pos c31] at H
           have c31b0 : ((((rd_T62 t952 x8_1).f2).length : Int) == 0) = true := beq_iff_eq.mpr c31
           have c31b1 : ((((rd_T62 t952 x8_1).f2).length : Int) != 0) = false := bne_eq_false_iff_eq.mpr c31
           clear c31
           obtain rfl := Option.some.inj H
           have p959 : 0 ≤ (x8_1 : Int) := of_decide_eq_true zf12_5
           have q959 : x8_1 < (t952.length : Int) := of_decide_eq_true zf12_5
           obtain ⟨ad959, A959_2, c959_2, e959, hx959_0, hx959_1, hx959_2, hl959_2, hi959_2⟩ := at_T62 (Kd.N_reads' HO_5.out).2.2 x8_1 p959 q959
           cases e959
           obtain ⟨ce959, hce959, hMe959, hcc959⟩ := Kd.N_get HO_5.out z62 x8_1 p959 zf12_9
           obtain ⟨ua959_2, uc959_2, rfl, ul959_2, ge959_2⟩ := k62_openF hMe959
           have hv959_2 := hcc959 2 _ rfl
           rw [add_field _ _ 2 (by omega)] at hv959_2
           replace hv959_2 := Option.some.inj (hv959_2.symm.trans hx959_2)
           injection hv959_2 with hva_ hvn_ hvc_
           rw [hva_] at ge959_2
           rw [hvc_] at ul959_2
           have HL959_2 := Aside0.mk (show Kd.V (Kd.int .i64) 3 _ w.heap.size _ _ ((rd_T62 t952 x8_1).f2) from Kd.V_mk ul959_2 ge959_2)
           clear hva_ hvn_ hvc_ ge959_2 ul959_2
           clear hcc959 hce959
           have HR959_2 := Aside0.mk hi959_2
           have HC959_2 := Aside0.mk hl959_2
           clear hi959_2 hl959_2
           replace p959 := eq_true p959
           replace q959 := eq_true q959
           have hcz32_0 : wr.cell? ⟨gb955, 0, none⟩ = some (.int .i64 t947) := (blk_cell BK955.out 0).trans rfl
           have hcz32_1 : wr.cell? ⟨gb955, 1, none⟩ = some (.int .i64 t948) := (blk_cell BK955.out 1).trans rfl
           have hfz32_0 := blk_frozen BK955.out 0
           have hfz32_1 := blk_frozen BK955.out 1
           have p960 : 0 ≤ (x8_1 : Int) := of_decide_eq_true zf12_5
           have q960 : x8_1 < (t952.length : Int) := of_decide_eq_true zf12_5
           obtain ⟨ad960, A960_2, c960_2, e960, hx960_0, hx960_1, hx960_2, hl960_2, hi960_2⟩ := at_T62 (Kd.N_reads' HO_5.out).2.2 x8_1 p960 q960
           obtain rfl : ad959 = ad960 := (by injection e960)
           obtain ⟨ce960, hce960, hMe960, hcc960⟩ := Kd.N_get HO_5.out z62 x8_1 p960 zf12_12
           obtain ⟨ua960_2, uc960_2, rfl, ul960_2, ge960_2⟩ := k62_openF hMe960
           have hv960_2 := hcc960 2 _ rfl
           rw [add_field _ _ 2 (by omega)] at hv960_2
           replace hv960_2 := Option.some.inj (hv960_2.symm.trans hx960_2)
           injection hv960_2 with hva_ hvn_ hvc_
           rw [hva_] at ge960_2
           rw [hvc_] at ul960_2
           have HL960_2 := Aside0.mk (show Kd.V (Kd.int .i64) 3 _ w.heap.size _ _ ((rd_T62 t952 x8_1).f2) from Kd.V_mk ul960_2 ge960_2)
           clear hva_ hvn_ hvc_ ge960_2 ul960_2
           clear hcc960 hce960
           have HR960_2 := Aside0.mk hi960_2
           have HC960_2 := Aside0.mk hl960_2
           clear hi960_2 hl960_2
           replace p960 := eq_true p960
           replace q960 := eq_true q960
           have ea_ := Option.some.inj (hx959_2.symm.trans hx960_2)
           injection ea_ with ea_ en_ ec_
           subst ea_
           subst ec_
           clear en_
           have p961 : 0 ≤ (x8_1 : Int) := of_decide_eq_true zf12_5
           have q961 : x8_1 < (t952.length : Int) := of_decide_eq_true zf12_5
           obtain ⟨ad961, A961_2, c961_2, e961, hx961_0, hx961_1, hx961_2, hl961_2, hi961_2⟩ := at_T62 (Kd.N_reads' HO_5.out).2.2 x8_1 p961 q961
           obtain rfl : ad959 = ad961 := (by injection e961)
           obtain ⟨ce961, hce961, hMe961, hcc961⟩ := Kd.N_get HO_5.out z62 x8_1 p961 (by first | exact q961 | exact of_decide_eq_true zf12_5 | (have e_ := (Kd.N_reads' HO_5.out).1; omega))
           obtain ⟨ua961_2, uc961_2, rfl, ul961_2, ge961_2⟩ := k62_openF hMe961
           have hv961_2 := hcc961 2 _ rfl
           rw [add_field _ _ 2 (by omega)] at hv961_2
           replace hv961_2 := Option.some.inj (hv961_2.symm.trans hx961_2)
           injection hv961_2 with hva_ hvn_ hvc_
           rw [hva_] at ge961_2
           rw [hvc_] at ul961_2
           have HL961_2 := Aside0.mk (show Kd.V (Kd.int .i64) 3 _ w.heap.size _ _ ((rd_T62 t952 x8_1).f2) from Kd.V_mk ul961_2 ge961_2)
           clear hva_ hvn_ hvc_ ge961_2 ul961_2
           clear hcc961 hce961
           have HR961_2 := Aside0.mk hi961_2
           have HC961_2 := Aside0.mk hl961_2
           clear hi961_2 hl961_2
           replace p961 := eq_true p961
           replace q961 := eq_true q961
           have ea_ := Option.some.inj (hx959_2.symm.trans hx961_2)
           injection ea_ with ea_ en_ ec_
           subst ea_
           subst ec_
           clear en_
           go_wp2
           repeat (go_quiet (fail); try go_wp2)
           go_ret
           exact ⟨by first | rfl | (simp [errW_none, errW_some] <;> rfl) | (simp [*, errW_none, errW_some] <;> rfl), by repeat (first | (with_reducible first | exact HB.out | apply below_alloc | apply pw_below_drewN | apply below_drew1 | refine below_set ?_ GE955.out) | exact HB.out)⟩
          ·
           rw [if_neg c31] at H
           have c31b0 : ((((rd_T62 t952 x8_1).f2).length : Int) == 0) = false := beq_eq_false_iff_ne.mpr c31
           have c31b1 : ((((rd_T62 t952 x8_1).f2).length : Int) != 0) = true := bne_iff_ne.mpr c31
           have c31b2 : ¬ (((rd_T62 t952 x8_1).f2) = []) := fun h_ => c31 (by rw [h_]; rfl)
           have H' := Aside0.mk H
           clear H
           have p959 : 0 ≤ (x8_1 : Int) := of_decide_eq_true zf12_5
           have q959 : x8_1 < (t952.length : Int) := of_decide_eq_true zf12_5
           obtain ⟨ad959, A959_2, c959_2, e959, hx959_0, hx959_1, hx959_2, hl959_2, hi959_2⟩ := at_T62 (Kd.N_reads' HO_5.out).2.2 x8_1 p959 q959
           cases e959
           obtain ⟨ce959, hce959, hMe959, hcc959⟩ := Kd.N_get HO_5.out z62 x8_1 p959 zf12_9
           obtain ⟨ua959_2, uc959_2, rfl, ul959_2, ge959_2⟩ := k62_openF hMe959
           have hv959_2 := hcc959 2 _ rfl
           rw [add_field _ _ 2 (by omega)] at hv959_2
           replace hv959_2 := Option.some.inj (hv959_2.symm.trans hx959_2)
           injection hv959_2 with hva_ hvn_ hvc_
           rw [hva_] at ge959_2
           rw [hvc_] at ul959_2
           have HL959_2 := Aside0.mk (show Kd.V (Kd.int .i64) 3 _ w.heap.size _ _ ((rd_T62 t952 x8_1).f2) from Kd.V_mk ul959_2 ge959_2)
           clear hva_ hvn_ hvc_ ge959_2 ul959_2
           clear hcc959 hce959
           have HR959_2 := Aside0.mk hi959_2
           have HC959_2 := Aside0.mk hl959_2
           clear hi959_2 hl959_2
           replace p959 := eq_true p959
           replace q959 := eq_true q959
           have hcz33_0 : wr.cell? ⟨gb955, 0, none⟩ = some (.int .i64 t947) := (blk_cell BK955.out 0).trans rfl
           have hcz33_1 : wr.cell? ⟨gb955, 1, none⟩ = some (.int .i64 t948) := (blk_cell BK955.out 1).trans rfl
           have hfz33_0 := blk_frozen BK955.out 0
           have hfz33_1 := blk_frozen BK955.out 1
           have p960 : 0 ≤ (x8_1 : Int) := of_decide_eq_true zf12_5
           have q960 : x8_1 < (t952.length : Int) := of_decide_eq_true zf12_5
           obtain ⟨ad960, A960_2, c960_2, e960, hx960_0, hx960_1, hx960_2, hl960_2, hi960_2⟩ := at_T62 (Kd.N_reads' HO_5.out).2.2 x8_1 p960 q960
           obtain rfl : ad959 = ad960 := (by injection e960)
           obtain ⟨ce960, hce960, hMe960, hcc960⟩ := Kd.N_get HO_5.out z62 x8_1 p960 zf12_12
           obtain ⟨ua960_2, uc960_2, rfl, ul960_2, ge960_2⟩ := k62_openF hMe960
           have hv960_2 := hcc960 2 _ rfl
           rw [add_field _ _ 2 (by omega)] at hv960_2
           replace hv960_2 := Option.some.inj (hv960_2.symm.trans hx960_2)
           injection hv960_2 with hva_ hvn_ hvc_
           rw [hva_] at ge960_2
           rw [hvc_] at ul960_2
           have HL960_2 := Aside0.mk (show Kd.V (Kd.int .i64) 3 _ w.heap.size _ _ ((rd_T62 t952 x8_1).f2) from Kd.V_mk ul960_2 ge960_2)
           clear hva_ hvn_ hvc_ ge960_2 ul960_2
           clear hcc960 hce960
           have HR960_2 := Aside0.mk hi960_2
           have HC960_2 := Aside0.mk hl960_2
           clear hi960_2 hl960_2
           replace p960 := eq_true p960
           replace q960 := eq_true q960
           have ea_ := Option.some.inj (hx959_2.symm.trans hx960_2)
           injection ea_ with ea_ en_ ec_
           subst ea_
           subst ec_
           clear en_
           have p961 : 0 ≤ (x8_1 : Int) := of_decide_eq_true zf12_5
           have q961 : x8_1 < (t952.length : Int) := of_decide_eq_true zf12_5
           obtain ⟨ad961, A961_2, c961_2, e961, hx961_0, hx961_1, hx961_2, hl961_2, hi961_2⟩ := at_T62 (Kd.N_reads' HO_5.out).2.2 x8_1 p961 q961
           obtain rfl : ad959 = ad961 := (by injection e961)
           obtain ⟨ce961, hce961, hMe961, hcc961⟩ := Kd.N_get HO_5.out z62 x8_1 p961 (by first | exact q961 | exact of_decide_eq_true zf12_5 | (have e_ := (Kd.N_reads' HO_5.out).1; omega))
           obtain ⟨ua961_2, uc961_2, rfl, ul961_2, ge961_2⟩ := k62_openF hMe961
           have hv961_2 := hcc961 2 _ rfl
           rw [add_field _ _ 2 (by omega)] at hv961_2
           replace hv961_2 := Option.some.inj (hv961_2.symm.trans hx961_2)
           injection hv961_2 with hva_ hvn_ hvc_
           rw [hva_] at ge961_2
           rw [hvc_] at ul961_2
           have HL961_2 := Aside0.mk (show Kd.V (Kd.int .i64) 3 _ w.heap.size _ _ ((rd_T62 t952 x8_1).f2) from Kd.V_mk ul961_2 ge961_2)
           clear hva_ hvn_ hvc_ ge961_2 ul961_2
           clear hcc961 hce961
           have HR961_2 := Aside0.mk hi961_2
           have HC961_2 := Aside0.mk hl961_2
           clear hi961_2 hl961_2
           replace p961 := eq_true p961
           replace q961 := eq_true q961
           have ea_ := Option.some.inj (hx959_2.symm.trans hx961_2)
           injection ea_ with ea_ en_ ec_
           subst ea_
           subst ec_
           clear en_
           have p962 : 0 ≤ (x8_1 : Int) := of_decide_eq_true zf12_5
           have q962 : x8_1 < (t952.length : Int) := of_decide_eq_true zf12_5
           obtain ⟨ad962, A962_2, c962_2, e962, hx962_0, hx962_1, hx962_2, hl962_2, hi962_2⟩ := at_T62 (Kd.N_reads' HO_5.out).2.2 x8_1 p962 q962
           obtain rfl : ad959 = ad962 := (by injection e962)
           obtain ⟨ce962, hce962, hMe962, hcc962⟩ := Kd.N_get HO_5.out z62 x8_1 p962 (by first | exact q962 | exact of_decide_eq_true zf12_5 | (have e_ := (Kd.N_reads' HO_5.out).1; omega))
           obtain ⟨ua962_2, uc962_2, rfl, ul962_2, ge962_2⟩ := k62_openF hMe962
           have hv962_2 := hcc962 2 _ rfl
           rw [add_field _ _ 2 (by omega)] at hv962_2
           replace hv962_2 := Option.some.inj (hv962_2.symm.trans hx962_2)
           injection hv962_2 with hva_ hvn_ hvc_
           rw [hva_] at ge962_2
           rw [hvc_] at ul962_2
           have HL962_2 := Aside0.mk (show Kd.V (Kd.int .i64) 3 _ w.heap.size _ _ ((rd_T62 t952 x8_1).f2) from Kd.V_mk ul962_2 ge962_2)
           clear hva_ hvn_ hvc_ ge962_2 ul962_2
           clear hcc962 hce962
           have HR962_2 := Aside0.mk hi962_2
           have HC962_2 := Aside0.mk hl962_2
           clear hi962_2 hl962_2
           replace p962 := eq_true p962
           replace q962 := eq_true q962
           have ea_ := Option.some.inj (hx959_2.symm.trans hx962_2)
           injection ea_ with ea_ en_ ec_
           subst ea_
           subst ec_
           clear en_
           go_wp2
           repeat (go_quiet (fail); try go_wp2)
           go_roundg k1
           case measure => have := HK1.out; omega
           case rel => exact ⟨(wrap64 (x7_1 + (((rd_T62 t952 x8_1).f2).length : Int))), (wrap64 (x8_1 + 1)), zf12_13, zf12_13, H', ⟨by have := HK1.out; omega⟩, ⟨by (with_reducible repeat (first | apply Kd.R_alloc | apply Kd.R_drewN | apply Kd.R_drew)); exact HO_4.out⟩, ⟨by (with_reducible repeat (first | apply Kd.N_alloc | apply Kd.N_drewN | apply Kd.N_drew)); exact HO_5.out⟩, ⟨by (with_reducible repeat (first | refine blk_drewN ?_ _ | refine blk_drew ?_ | refine blk_alloc ?_ _)); exact BK955.out⟩, ⟨by repeat (first | (with_reducible first | exact HB.out | apply below_alloc | apply pw_below_drewN | apply below_drew1 | refine below_set ?_ GE955.out) | exact HB.out)⟩⟩
       ·
        rw [if_neg c26] at H
        exact absurd H (by simp)
      ·
       rw [if_neg c25] at H
       have c25b0 : decide (x8_1 < (t952.length : Int)) = false := decide_eq_false c25
       clear c25
       by_cases c34 : x7_1 = (t949.length : Int)
       ·
        rw [if_pos c34] at H
        have c34b0 : (x7_1 == (t949.length : Int)) = true := beq_iff_eq.mpr c34
        have c34b1 : (x7_1 != (t949.length : Int)) = false := bne_eq_false_iff_eq.mpr c34
        clear c34
        replace H := Option.bind_eq_some_iff.mp H
        obtain ⟨t963, A350, H⟩ := H
        replace H : (if t963 = true then ((impl_PiecesOk.f k1 t949).bind fun t964 => (some t964)) else (some false)) = some r := H
        have A35 := Aside0.mk A350
        clear A350
        by_cases c36 : t963 = true
        ·
         subst c36
         have H1 : ((impl_PiecesOk.f k1 t949).bind fun t964 => (some t964)) = some r := by rw [if_pos rfl] at H; exact H
         clear H
         have H := H1
         clear H1
         replace H := Option.bind_eq_some_iff.mp H
         obtain ⟨t964, A370, H⟩ := H
         replace H : (some t964) = some r := H
         have A37 := Aside0.mk A370
         clear A370
         obtain rfl := Option.some.inj H
         have hcz38_0 : wr.cell? ⟨gb955, 0, none⟩ = some (.int .i64 t947) := (blk_cell BK955.out 0).trans rfl
         have hcz38_1 : wr.cell? ⟨gb955, 1, none⟩ = some (.int .i64 t948) := (blk_cell BK955.out 1).trans rfl
         have hfz38_0 := blk_frozen BK955.out 0
         have hfz38_1 := blk_frozen BK955.out 1
         go_wp2_with (first | (go_at_call 52; (with_reducible refine (impl_LimitsOk.calls t947 t948 true _ A35.out).mono ?_); rintro e w39 ⟨rfl, hb⟩; have n0_ := Aside0.mk (Kd.R_below zf12_10 hb); have n1_ := Aside0.mk (Kd.N_below zf12_11 hb); have n2_ := Aside0.mk (blk_below (g := gb955) (o := .cells #[.int .i64 t947, .int .i64 t948] 49 (0, 0)) zf12_8 hb); have n3_ := Aside0.mk (below_step zf12_3 hb); clear HO_4; clear HO_5; clear BK955; clear HB; have HO_4 := n0_; have HO_5 := n1_; have BK955 := n2_; have HB := n3_; clear n0_ n1_ n2_ n3_; (try clear hb); (try clear hb2); (try clear hk); (try clear hi)) | (go_at_call 35; (with_reducible refine (impl_PiecesOk.calls k1 _ _ t949 t964 _ ?side1 ?side2 A37.out).mono ?_); (case side1 => repeat (first | exact (Kd.R_reads' HO_4.out).2.2 | (with_reducible refine Kd.C_alloc ?_ _) | (with_reducible refine Kd.C_drewN ?_ _) | (with_reducible refine Kd.C_drew ?_))); (case side2 => exact (Kd.R_reads' HO_4.out).2.1); rintro e w40 ⟨rfl, hb⟩; have n0_ := Aside0.mk (Kd.R_below zf12_10 hb); have n1_ := Aside0.mk (Kd.N_below zf12_11 hb); have n2_ := Aside0.mk (blk_below (g := gb955) (o := .cells #[.int .i64 t947, .int .i64 t948] 49 (0, 0)) zf12_8 hb); have n3_ := Aside0.mk (below_step zf12_3 hb); clear HO_4; clear HO_5; clear BK955; clear HB; have HO_4 := n0_; have HO_5 := n1_; have BK955 := n2_; have HB := n3_; clear n0_ n1_ n2_ n3_; (try clear hb); (try clear hb2); (try clear hk); (try clear hi)))
         go_ret
         exact ⟨by first | rfl | (simp [errW_none, errW_some] <;> rfl) | (simp [*, errW_none, errW_some] <;> rfl), by repeat (first | (with_reducible first | exact HB.out | apply below_alloc | apply pw_below_drewN | apply below_drew1 | refine below_set ?_ GE955.out) | exact HB.out)⟩
        ·
         replace c36 := Bool.eq_false_iff.mpr c36
         subst c36
         have H1 : (some false) = some r := by rw [if_neg (show ¬ (false = true) by decide)] at H; exact H
         clear H
         have H := H1
         clear H1
         obtain rfl := Option.some.inj H
         have hcz41_0 : wr.cell? ⟨gb955, 0, none⟩ = some (.int .i64 t947) := (blk_cell BK955.out 0).trans rfl
         have hcz41_1 : wr.cell? ⟨gb955, 1, none⟩ = some (.int .i64 t948) := (blk_cell BK955.out 1).trans rfl
         have hfz41_0 := blk_frozen BK955.out 0
         have hfz41_1 := blk_frozen BK955.out 1
         go_wp2_with (go_at_call 52; (with_reducible refine (impl_LimitsOk.calls t947 t948 false _ A35.out).mono ?_); rintro e w42 ⟨rfl, hb⟩; have n0_ := Aside0.mk (Kd.R_below zf12_10 hb); have n1_ := Aside0.mk (Kd.N_below zf12_11 hb); have n2_ := Aside0.mk (blk_below (g := gb955) (o := .cells #[.int .i64 t947, .int .i64 t948] 49 (0, 0)) zf12_8 hb); have n3_ := Aside0.mk (below_step zf12_3 hb); clear HO_4; clear HO_5; clear BK955; clear HB; have HO_4 := n0_; have HO_5 := n1_; have BK955 := n2_; have HB := n3_; clear n0_ n1_ n2_ n3_; (try clear hb); (try clear hb2); (try clear hk); (try clear hi))
         go_ret
         exact ⟨by first | rfl | (simp [errW_none, errW_some] <;> rfl) | (simp [*, errW_none, errW_some] <;> rfl), by repeat (first | (with_reducible first | exact HB.out | apply below_alloc | apply pw_below_drewN | apply below_drew1 | refine below_set ?_ GE955.out) | exact HB.out)⟩
       ·
        rw [if_neg c34] at H
        have c34b0 : (x7_1 == (t949.length : Int)) = false := beq_eq_false_iff_ne.mpr c34
        have c34b1 : (x7_1 != (t949.length : Int)) = true := bne_iff_ne.mpr c34
        obtain rfl := Option.some.inj H
        go_wp2
        go_ret
        exact ⟨by first | rfl | (simp [errW_none, errW_some] <;> rfl) | (simp [*, errW_none, errW_some] <;> rfl), by repeat (first | (with_reducible first | exact HB.out | apply below_alloc | apply pw_below_drewN | apply below_drew1 | refine below_set ?_ GE955.out) | exact HB.out)⟩
   ·
    replace c16 := Bool.eq_false_iff.mpr c16
    subst c16
    have H1 : (if (t952.length : Int) > 0 then (some true) else (if (t949.length : Int) > 0 then (some true) else ((spec_LimitsOk.f t947 t948).bind fun t958 => (some (!t958))))) = some r := by rw [if_neg (show ¬ (false = true) by decide)] at H; exact H
    clear H
    have H := H1
    clear H1
    by_cases c43 : (t952.length : Int) > 0
    ·
     rw [if_pos c43] at H
     have c43b0 : decide (0 < (t952.length : Int)) = true := decide_eq_true c43
     have c43b1 : decide (0 < t952.length) = true := decide_eq_true (by omega)
     clear c43
     obtain rfl := Option.some.inj H
     go_enter Try.func12, Try.ntmps12
     go_wp2_with (first | (go_at_call 28; (with_reducible refine (laws_big.calls _ _ l0 false _ ?side1 ?side2 A2.out).mono ?_); (case side1 => repeat (first | exact HR0.out | (with_reducible refine Kd.C_alloc ?_ _) | (with_reducible refine Kd.C_drewN ?_ _) | (with_reducible refine Kd.C_drew ?_))); (case side2 => exact HC0.out); rintro e w' ⟨rfl, ⟨nd, rfl⟩⟩; (try first | exact ⟨rfl, _, World.drewN_drewN _ _ _⟩ | exact ⟨rfl, _, Eq.trans (World.drewN_drewN _ _ _) (congrArg (World.drewN _) (Nat.add_assoc _ _ _))⟩)) | (go_at_call 50; (with_reducible refine (spec_DrawBoxesOk.calls k _ _ l0 t947 t948 t949 t952 _ ?side1 ?side2 A4.out).mono ?_); (case side1 => repeat (first | exact HR0.out | (with_reducible refine Kd.C_alloc ?_ _) | (with_reducible refine Kd.C_drewN ?_ _) | (with_reducible refine Kd.C_drew ?_))); (case side2 => exact HC0.out); rintro e w44 ⟨v950, v953, rfl, ho0, ho1, hb⟩; have n0_ := Aside0.mk (Kd.R_lower (Kd.R_mono (ok' := fun k_ => True) ho0 (fun _ hk_ => trivial)) (below_size zf12_0)); have n1_ := Aside0.mk (Kd.N_lower (Kd.N_mono (ok' := fun k_ => some k_ ≠ (v950 : Value).ownBlock) ho1 (fun k_ hk_ => hk_.2)) (below_size zf12_0)); have n2_ := Aside0.mk (below_step zf12_0 hb); clear HB; have HO951 := n0_; have HO954 := n1_; have HB := n2_; clear n0_ n1_ n2_; (try clear hb); (try clear hb2); (try clear hk); (try clear hi); (try clear ho0); (try clear ho1)) | ((with_reducible refine gate_dst (N := 3) rfl ?_); (try (refine gate_guard (by rfl) ?_; dsimp only)); refine box_event ?hg (N := 3) ?hd (cs := #[.int .i64 0, .int .i64 0]) (t := 49) ?hr ?_; (case hd => rfl); (case hg => rfl); (case hr => first | (go_simp; done) | (go_simp; rfl)); intro gb955 hg w45 hbox hb; have n0_ := Aside0.mk (Kd.R_below zf12_6 hb); have n1_ := Aside0.mk (Kd.N_below (Kd.N_elderB zf12_7 gb955 (Nat.le_of_eq hg.symm)) hb); have n2_ := Aside0.mk (below_step zf12_0 hb); have n3_ := Aside0.mk (hbox); have n4_ := Aside0.mk ((by rw [hg]; exact (below_size zf12_0) : w.heap.size ≤ gb955)); have n5_ := Aside0.mk ((by rw [hg]; exact (below_size zf12_0) : w.heap.size ≤ gb955)); clear HO951; clear HO954; clear HB; have HO951 := n0_; have HO954 := n1_; have HB := n2_; have BK955 := n3_; have GW955 := n4_; have GE955 := n5_; clear n0_ n1_ n2_ n3_ n4_ n5_; clear hb hbox hg; have hcz46_0 : w45.cell? ⟨gb955, 0, none⟩ = some (.int .i64 0) := (blk_cell BK955.out 0).trans rfl; have hcz46_1 : w45.cell? ⟨gb955, 1, none⟩ = some (.int .i64 0) := (blk_cell BK955.out 1).trans rfl; have hfz46_0 := blk_frozen BK955.out 0; have hfz46_1 := blk_frozen BK955.out 1; obtain ⟨Ao47, co47, eo47⟩ := Kd.R_slice HO951.out; subst eo47; obtain ⟨Ao48, co48, eo48⟩ := Kd.N_slice HO954.out; subst eo48) | (go_at_call 43; (with_reducible refine (impl_BoxesOk.calls k t947 t948 _ _ t949 _ _ t952 false _ ?side1 ?side2 ?side3 ?side4 A5.out).mono ?_); (case side1 => refine (Kd.R_reads' (e := 80) (base := w.heap.size) (ok := fun k_ => True) (n := t949.length) (c := co47) ?_).2.2; exact zf12_2); (case side2 => exact (Kd.R_reads' HO951.out).2.1); (case side3 => refine (Kd.N_reads' (e := 62) (base := w.heap.size) (ok := fun k_ => (some k_ ≠ (.slice Ao47 t949.length co47 : Value).ownBlock ∧ k_ ≠ gb955)) (n := t952.length) (c := co48) ?_).2.2; exact zf12_1); (case side4 => exact (Kd.N_reads' HO954.out).2.1); rintro e w49 ⟨rfl, hb⟩; have n0_ := Aside0.mk (Kd.R_below zf12_2 hb); have n1_ := Aside0.mk (Kd.N_below zf12_1 hb); have n2_ := Aside0.mk (blk_below (g := gb955) (o := .cells #[.int .i64 t947, .int .i64 t948] 49 (0, 0)) zf12_4 hb); have n3_ := Aside0.mk (below_step zf12_3 hb); clear HO951; clear HO954; clear BK955; clear HB; have HO951 := n0_; have HO954 := n1_; have BK955 := n2_; have HB := n3_; clear n0_ n1_ n2_ n3_; (try clear hb); (try clear hb2); (try clear hk); (try clear hi); have hcz50_0 : w49.cell? ⟨gb955, 0, none⟩ = some (.int .i64 t947) := (blk_cell BK955.out 0).trans rfl; have hcz50_1 : w49.cell? ⟨gb955, 1, none⟩ = some (.int .i64 t948) := (blk_cell BK955.out 1).trans rfl; have hfz50_0 := blk_frozen BK955.out 0; have hfz50_1 := blk_frozen BK955.out 1) | (go_at_call 42; (with_reducible refine (spec_BoxesOk.calls k t947 t948 _ _ t949 _ _ t952 t957 _ ?side1 ?side2 ?side3 ?side4 A6.out).mono ?_); (case side1 => repeat (first | exact (Kd.R_reads' HO951.out).2.2 | (with_reducible refine Kd.C_alloc ?_ _) | (with_reducible refine Kd.C_drewN ?_ _) | (with_reducible refine Kd.C_drew ?_))); (case side2 => exact (Kd.R_reads' HO951.out).2.1); (case side3 => repeat (first | exact (Kd.N_reads' HO954.out).2.2 | (with_reducible refine Kd.C_alloc ?_ _) | (with_reducible refine Kd.C_drewN ?_ _) | (with_reducible refine Kd.C_drew ?_))); (case side4 => exact (Kd.N_reads' HO954.out).2.1); rintro e w51 ⟨rfl, hb⟩; have n0_ := Aside0.mk (Kd.R_below zf12_6 hb); have n1_ := Aside0.mk (Kd.N_below zf12_7 hb); have n2_ := Aside0.mk (blk_below (g := gb955) (o := .cells #[.int .i64 t947, .int .i64 t948] 49 (0, 0)) zf12_8 hb); have n3_ := Aside0.mk (below_step zf12_3 hb); clear HO951; clear HO954; clear BK955; clear HB; have HO951 := n0_; have HO954 := n1_; have BK955 := n2_; have HB := n3_; clear n0_ n1_ n2_ n3_; (try clear hb); (try clear hb2); (try clear hk); (try clear hi)))
     go_ret
     exact ⟨by first | rfl | (simp [errW_none, errW_some] <;> rfl) | (simp [*, errW_none, errW_some] <;> rfl), by repeat (first | (with_reducible first | exact HB.out | apply below_alloc | apply pw_below_drewN | apply below_drew1 | refine below_set ?_ GE955.out) | exact HB.out)⟩
    ·
     rw [if_neg c43] at H
     have c43b0 : decide (0 < (t952.length : Int)) = false := decide_eq_false c43
     have c43b1 : decide (0 < t952.length) = false := decide_eq_false (by omega)
     clear c43
     by_cases c52 : (t949.length : Int) > 0
     ·
      rw [if_pos c52] at H
      have c52b0 : decide (0 < (t949.length : Int)) = true := decide_eq_true c52
      have c52b1 : decide (0 < t949.length) = true := decide_eq_true (by omega)
      clear c52
      obtain rfl := Option.some.inj H
      go_enter Try.func12, Try.ntmps12
      go_wp2_with (first | (go_at_call 28; (with_reducible refine (laws_big.calls _ _ l0 false _ ?side1 ?side2 A2.out).mono ?_); (case side1 => repeat (first | exact HR0.out | (with_reducible refine Kd.C_alloc ?_ _) | (with_reducible refine Kd.C_drewN ?_ _) | (with_reducible refine Kd.C_drew ?_))); (case side2 => exact HC0.out); rintro e w' ⟨rfl, ⟨nd, rfl⟩⟩; (try first | exact ⟨rfl, _, World.drewN_drewN _ _ _⟩ | exact ⟨rfl, _, Eq.trans (World.drewN_drewN _ _ _) (congrArg (World.drewN _) (Nat.add_assoc _ _ _))⟩)) | (go_at_call 50; (with_reducible refine (spec_DrawBoxesOk.calls k _ _ l0 t947 t948 t949 t952 _ ?side1 ?side2 A4.out).mono ?_); (case side1 => repeat (first | exact HR0.out | (with_reducible refine Kd.C_alloc ?_ _) | (with_reducible refine Kd.C_drewN ?_ _) | (with_reducible refine Kd.C_drew ?_))); (case side2 => exact HC0.out); rintro e w53 ⟨v950, v953, rfl, ho0, ho1, hb⟩; have n0_ := Aside0.mk (Kd.R_lower (Kd.R_mono (ok' := fun k_ => True) ho0 (fun _ hk_ => trivial)) (below_size zf12_0)); have n1_ := Aside0.mk (Kd.N_lower (Kd.N_mono (ok' := fun k_ => some k_ ≠ (v950 : Value).ownBlock) ho1 (fun k_ hk_ => hk_.2)) (below_size zf12_0)); have n2_ := Aside0.mk (below_step zf12_0 hb); clear HB; have HO951 := n0_; have HO954 := n1_; have HB := n2_; clear n0_ n1_ n2_; (try clear hb); (try clear hb2); (try clear hk); (try clear hi); (try clear ho0); (try clear ho1)) | ((with_reducible refine gate_dst (N := 3) rfl ?_); (try (refine gate_guard (by rfl) ?_; dsimp only)); refine box_event ?hg (N := 3) ?hd (cs := #[.int .i64 0, .int .i64 0]) (t := 49) ?hr ?_; (case hd => rfl); (case hg => rfl); (case hr => first | (go_simp; done) | (go_simp; rfl)); intro gb955 hg w54 hbox hb; have n0_ := Aside0.mk (Kd.R_below zf12_6 hb); have n1_ := Aside0.mk (Kd.N_below (Kd.N_elderB zf12_7 gb955 (Nat.le_of_eq hg.symm)) hb); have n2_ := Aside0.mk (below_step zf12_0 hb); have n3_ := Aside0.mk (hbox); have n4_ := Aside0.mk ((by rw [hg]; exact (below_size zf12_0) : w.heap.size ≤ gb955)); have n5_ := Aside0.mk ((by rw [hg]; exact (below_size zf12_0) : w.heap.size ≤ gb955)); clear HO951; clear HO954; clear HB; have HO951 := n0_; have HO954 := n1_; have HB := n2_; have BK955 := n3_; have GW955 := n4_; have GE955 := n5_; clear n0_ n1_ n2_ n3_ n4_ n5_; clear hb hbox hg; have hcz55_0 : w54.cell? ⟨gb955, 0, none⟩ = some (.int .i64 0) := (blk_cell BK955.out 0).trans rfl; have hcz55_1 : w54.cell? ⟨gb955, 1, none⟩ = some (.int .i64 0) := (blk_cell BK955.out 1).trans rfl; have hfz55_0 := blk_frozen BK955.out 0; have hfz55_1 := blk_frozen BK955.out 1; obtain ⟨Ao56, co56, eo56⟩ := Kd.R_slice HO951.out; subst eo56; obtain ⟨Ao57, co57, eo57⟩ := Kd.N_slice HO954.out; subst eo57) | (go_at_call 43; (with_reducible refine (impl_BoxesOk.calls k t947 t948 _ _ t949 _ _ t952 false _ ?side1 ?side2 ?side3 ?side4 A5.out).mono ?_); (case side1 => refine (Kd.R_reads' (e := 80) (base := w.heap.size) (ok := fun k_ => True) (n := t949.length) (c := co56) ?_).2.2; exact zf12_2); (case side2 => exact (Kd.R_reads' HO951.out).2.1); (case side3 => refine (Kd.N_reads' (e := 62) (base := w.heap.size) (ok := fun k_ => (some k_ ≠ (.slice Ao56 t949.length co56 : Value).ownBlock ∧ k_ ≠ gb955)) (n := t952.length) (c := co57) ?_).2.2; exact zf12_1); (case side4 => exact (Kd.N_reads' HO954.out).2.1); rintro e w58 ⟨rfl, hb⟩; have n0_ := Aside0.mk (Kd.R_below zf12_2 hb); have n1_ := Aside0.mk (Kd.N_below zf12_1 hb); have n2_ := Aside0.mk (blk_below (g := gb955) (o := .cells #[.int .i64 t947, .int .i64 t948] 49 (0, 0)) zf12_4 hb); have n3_ := Aside0.mk (below_step zf12_3 hb); clear HO951; clear HO954; clear BK955; clear HB; have HO951 := n0_; have HO954 := n1_; have BK955 := n2_; have HB := n3_; clear n0_ n1_ n2_ n3_; (try clear hb); (try clear hb2); (try clear hk); (try clear hi); have hcz59_0 : w58.cell? ⟨gb955, 0, none⟩ = some (.int .i64 t947) := (blk_cell BK955.out 0).trans rfl; have hcz59_1 : w58.cell? ⟨gb955, 1, none⟩ = some (.int .i64 t948) := (blk_cell BK955.out 1).trans rfl; have hfz59_0 := blk_frozen BK955.out 0; have hfz59_1 := blk_frozen BK955.out 1) | (go_at_call 42; (with_reducible refine (spec_BoxesOk.calls k t947 t948 _ _ t949 _ _ t952 t957 _ ?side1 ?side2 ?side3 ?side4 A6.out).mono ?_); (case side1 => repeat (first | exact (Kd.R_reads' HO951.out).2.2 | (with_reducible refine Kd.C_alloc ?_ _) | (with_reducible refine Kd.C_drewN ?_ _) | (with_reducible refine Kd.C_drew ?_))); (case side2 => exact (Kd.R_reads' HO951.out).2.1); (case side3 => repeat (first | exact (Kd.N_reads' HO954.out).2.2 | (with_reducible refine Kd.C_alloc ?_ _) | (with_reducible refine Kd.C_drewN ?_ _) | (with_reducible refine Kd.C_drew ?_))); (case side4 => exact (Kd.N_reads' HO954.out).2.1); rintro e w60 ⟨rfl, hb⟩; have n0_ := Aside0.mk (Kd.R_below zf12_6 hb); have n1_ := Aside0.mk (Kd.N_below zf12_7 hb); have n2_ := Aside0.mk (blk_below (g := gb955) (o := .cells #[.int .i64 t947, .int .i64 t948] 49 (0, 0)) zf12_8 hb); have n3_ := Aside0.mk (below_step zf12_3 hb); clear HO951; clear HO954; clear BK955; clear HB; have HO951 := n0_; have HO954 := n1_; have BK955 := n2_; have HB := n3_; clear n0_ n1_ n2_ n3_; (try clear hb); (try clear hb2); (try clear hk); (try clear hi)))
      go_ret
      exact ⟨by first | rfl | (simp [errW_none, errW_some] <;> rfl) | (simp [*, errW_none, errW_some] <;> rfl), by repeat (first | (with_reducible first | exact HB.out | apply below_alloc | apply pw_below_drewN | apply below_drew1 | refine below_set ?_ GE955.out) | exact HB.out)⟩
     ·
      rw [if_neg c52] at H
      have c52b0 : decide (0 < (t949.length : Int)) = false := decide_eq_false c52
      have c52b1 : decide (0 < t949.length) = false := decide_eq_false (by omega)
      clear c52
      replace H := Option.bind_eq_some_iff.mp H
      obtain ⟨t958, A610, H⟩ := H
      replace H : (some (!t958)) = some r := H
      have A61 := Aside0.mk A610
      clear A610
      obtain rfl := Option.some.inj H
      go_enter Try.func12, Try.ntmps12
      go_wp2_with (first | (go_at_call 28; (with_reducible refine (laws_big.calls _ _ l0 false _ ?side1 ?side2 A2.out).mono ?_); (case side1 => repeat (first | exact HR0.out | (with_reducible refine Kd.C_alloc ?_ _) | (with_reducible refine Kd.C_drewN ?_ _) | (with_reducible refine Kd.C_drew ?_))); (case side2 => exact HC0.out); rintro e w' ⟨rfl, ⟨nd, rfl⟩⟩; (try first | exact ⟨rfl, _, World.drewN_drewN _ _ _⟩ | exact ⟨rfl, _, Eq.trans (World.drewN_drewN _ _ _) (congrArg (World.drewN _) (Nat.add_assoc _ _ _))⟩)) | (go_at_call 50; (with_reducible refine (spec_DrawBoxesOk.calls k _ _ l0 t947 t948 t949 t952 _ ?side1 ?side2 A4.out).mono ?_); (case side1 => repeat (first | exact HR0.out | (with_reducible refine Kd.C_alloc ?_ _) | (with_reducible refine Kd.C_drewN ?_ _) | (with_reducible refine Kd.C_drew ?_))); (case side2 => exact HC0.out); rintro e w62 ⟨v950, v953, rfl, ho0, ho1, hb⟩; have n0_ := Aside0.mk (Kd.R_lower (Kd.R_mono (ok' := fun k_ => True) ho0 (fun _ hk_ => trivial)) (below_size zf12_0)); have n1_ := Aside0.mk (Kd.N_lower (Kd.N_mono (ok' := fun k_ => some k_ ≠ (v950 : Value).ownBlock) ho1 (fun k_ hk_ => hk_.2)) (below_size zf12_0)); have n2_ := Aside0.mk (below_step zf12_0 hb); clear HB; have HO951 := n0_; have HO954 := n1_; have HB := n2_; clear n0_ n1_ n2_; (try clear hb); (try clear hb2); (try clear hk); (try clear hi); (try clear ho0); (try clear ho1)) | ((with_reducible refine gate_dst (N := 3) rfl ?_); (try (refine gate_guard (by rfl) ?_; dsimp only)); refine box_event ?hg (N := 3) ?hd (cs := #[.int .i64 0, .int .i64 0]) (t := 49) ?hr ?_; (case hd => rfl); (case hg => rfl); (case hr => first | (go_simp; done) | (go_simp; rfl)); intro gb955 hg w63 hbox hb; have n0_ := Aside0.mk (Kd.R_below zf12_6 hb); have n1_ := Aside0.mk (Kd.N_below (Kd.N_elderB zf12_7 gb955 (Nat.le_of_eq hg.symm)) hb); have n2_ := Aside0.mk (below_step zf12_0 hb); have n3_ := Aside0.mk (hbox); have n4_ := Aside0.mk ((by rw [hg]; exact (below_size zf12_0) : w.heap.size ≤ gb955)); have n5_ := Aside0.mk ((by rw [hg]; exact (below_size zf12_0) : w.heap.size ≤ gb955)); clear HO951; clear HO954; clear HB; have HO951 := n0_; have HO954 := n1_; have HB := n2_; have BK955 := n3_; have GW955 := n4_; have GE955 := n5_; clear n0_ n1_ n2_ n3_ n4_ n5_; clear hb hbox hg; have hcz64_0 : w63.cell? ⟨gb955, 0, none⟩ = some (.int .i64 0) := (blk_cell BK955.out 0).trans rfl; have hcz64_1 : w63.cell? ⟨gb955, 1, none⟩ = some (.int .i64 0) := (blk_cell BK955.out 1).trans rfl; have hfz64_0 := blk_frozen BK955.out 0; have hfz64_1 := blk_frozen BK955.out 1; obtain ⟨Ao65, co65, eo65⟩ := Kd.R_slice HO951.out; subst eo65; obtain ⟨Ao66, co66, eo66⟩ := Kd.N_slice HO954.out; subst eo66) | (go_at_call 43; (with_reducible refine (impl_BoxesOk.calls k t947 t948 _ _ t949 _ _ t952 false _ ?side1 ?side2 ?side3 ?side4 A5.out).mono ?_); (case side1 => refine (Kd.R_reads' (e := 80) (base := w.heap.size) (ok := fun k_ => True) (n := t949.length) (c := co65) ?_).2.2; exact zf12_2); (case side2 => exact (Kd.R_reads' HO951.out).2.1); (case side3 => refine (Kd.N_reads' (e := 62) (base := w.heap.size) (ok := fun k_ => (some k_ ≠ (.slice Ao65 t949.length co65 : Value).ownBlock ∧ k_ ≠ gb955)) (n := t952.length) (c := co66) ?_).2.2; exact zf12_1); (case side4 => exact (Kd.N_reads' HO954.out).2.1); rintro e w67 ⟨rfl, hb⟩; have n0_ := Aside0.mk (Kd.R_below zf12_2 hb); have n1_ := Aside0.mk (Kd.N_below zf12_1 hb); have n2_ := Aside0.mk (blk_below (g := gb955) (o := .cells #[.int .i64 t947, .int .i64 t948] 49 (0, 0)) zf12_4 hb); have n3_ := Aside0.mk (below_step zf12_3 hb); clear HO951; clear HO954; clear BK955; clear HB; have HO951 := n0_; have HO954 := n1_; have BK955 := n2_; have HB := n3_; clear n0_ n1_ n2_ n3_; (try clear hb); (try clear hb2); (try clear hk); (try clear hi); have hcz68_0 : w67.cell? ⟨gb955, 0, none⟩ = some (.int .i64 t947) := (blk_cell BK955.out 0).trans rfl; have hcz68_1 : w67.cell? ⟨gb955, 1, none⟩ = some (.int .i64 t948) := (blk_cell BK955.out 1).trans rfl; have hfz68_0 := blk_frozen BK955.out 0; have hfz68_1 := blk_frozen BK955.out 1) | (go_at_call 42; (with_reducible refine (spec_BoxesOk.calls k t947 t948 _ _ t949 _ _ t952 t957 _ ?side1 ?side2 ?side3 ?side4 A6.out).mono ?_); (case side1 => repeat (first | exact (Kd.R_reads' HO951.out).2.2 | (with_reducible refine Kd.C_alloc ?_ _) | (with_reducible refine Kd.C_drewN ?_ _) | (with_reducible refine Kd.C_drew ?_))); (case side2 => exact (Kd.R_reads' HO951.out).2.1); (case side3 => repeat (first | exact (Kd.N_reads' HO954.out).2.2 | (with_reducible refine Kd.C_alloc ?_ _) | (with_reducible refine Kd.C_drewN ?_ _) | (with_reducible refine Kd.C_drew ?_))); (case side4 => exact (Kd.N_reads' HO954.out).2.1); rintro e w69 ⟨rfl, hb⟩; have n0_ := Aside0.mk (Kd.R_below zf12_6 hb); have n1_ := Aside0.mk (Kd.N_below zf12_7 hb); have n2_ := Aside0.mk (blk_below (g := gb955) (o := .cells #[.int .i64 t947, .int .i64 t948] 49 (0, 0)) zf12_8 hb); have n3_ := Aside0.mk (below_step zf12_3 hb); clear HO951; clear HO954; clear BK955; clear HB; have HO951 := n0_; have HO954 := n1_; have BK955 := n2_; have HB := n3_; clear n0_ n1_ n2_ n3_; (try clear hb); (try clear hb2); (try clear hk); (try clear hi); have hcz70_0 : w69.cell? ⟨gb955, 0, none⟩ = some (.int .i64 t947) := (blk_cell BK955.out 0).trans rfl; have hcz70_1 : w69.cell? ⟨gb955, 1, none⟩ = some (.int .i64 t948) := (blk_cell BK955.out 1).trans rfl; have hfz70_0 := blk_frozen BK955.out 0; have hfz70_1 := blk_frozen BK955.out 1) | (go_at_call 51; (with_reducible refine (spec_LimitsOk.calls t947 t948 t958 _ A61.out).mono ?_); rintro e w71 ⟨rfl, hb⟩; have n0_ := Aside0.mk (Kd.R_below zf12_6 hb); have n1_ := Aside0.mk (Kd.N_below zf12_7 hb); have n2_ := Aside0.mk (blk_below (g := gb955) (o := .cells #[.int .i64 t947, .int .i64 t948] 49 (0, 0)) zf12_8 hb); have n3_ := Aside0.mk (below_step zf12_3 hb); clear HO951; clear HO954; clear BK955; clear HB; have HO951 := n0_; have HO954 := n1_; have BK955 := n2_; have HB := n3_; clear n0_ n1_ n2_ n3_; (try clear hb); (try clear hb2); (try clear hk); (try clear hi)))
      go_ret
      exact ⟨by first | rfl | (simp [errW_none, errW_some] <;> rfl) | (simp [*, errW_none, errW_some] <;> rfl), by repeat (first | (with_reducible first | exact HB.out | apply below_alloc | apply pw_below_drewN | apply below_drew1 | refine below_set ?_ GE955.out) | exact HB.out)⟩

/-- THE ONE PURE STATEMENT of laws_FnBoxesRight: yours. -/
def laws_FnBoxesRight.Pure : Prop := ∀ (l0 : List Int), l0.length ≤ maxLen → l0.length * 1 ≤ 140737488351232 → (∀ x ∈ l0, (Lit.int .u8 x).wf = true) → ∃ k, laws_FnBoxesRight.f k l0 = some true
theorem laws_FnBoxesRight.walk (P : laws_FnBoxesRight.Pure) (a0 : Option Addr) (len0 cap0 : Nat) (z0 : List Int) (w : World) (w0 : (a0 = none ∧ len0 = 0 ∧ cap0 = 0 ∧ z0 = []) ∨ ∃ x, a0 = some x ∧ len0 ≤ cap0 ∧ cap0 ≤ maxLen ∧ z0.length = cap0 ∧ (∀ i, i < z0.length → w.cell? (x.add i) = some (.int .u8 (z0.getD i 0))) ∧ ∀ n ∈ z0, (Lit.int .u8 n).wf = true) (y0 : len0 * 1 ≤ 140737488351232) :
  Calls Try.prog 12 #[.slice a0 len0 cap0] w fun e w' => e = .returned (.bool true) ∧ Below w.heap.size w w' := by
 obtain ⟨l0, rfl, hr0, hm0, hw0, hc0⟩ := ReadsInt.ofRowC w0
 obtain ⟨k, h⟩ := P l0 hm0 y0 hw0
 refine (laws_FnBoxesRight.calls k _ _ l0 true w (Kd.C_of_reads (d := (0 : Int)) (h1 := fun _ => rfl) hr0) hc0 h).mono ?_
 rintro e w' ⟨rfl, hd⟩
 exact ⟨rfl, hd⟩

end Go.Proofs.Ytnldmnlfocigaaa.F

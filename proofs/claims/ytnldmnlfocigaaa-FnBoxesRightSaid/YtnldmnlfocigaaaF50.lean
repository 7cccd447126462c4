-- PRINTED by print.py (a twelfth state) out of the translation. Not trusted: Lean checks it.
import Derived.Test.YtnldmnlfocigaaaF
import Derived.Test.YtnldmnlfocigaaaAuto
import Derived.Test.YtnldmnlfocigaaaF107
import Derived.Test.YtnldmnlfocigaaaF87
import Derived.Test.YtnldmnlfocigaaaF88
import Derived.Test.YtnldmnlfocigaaaF66
import Derived.Test.YtnldmnlfocigaaaF44
import Derived.Test.YtnldmnlfocigaaaF85
import Derived.Test.YtnldmnlfocigaaaF86
namespace Go.Proofs.Ytnldmnlfocigaaa.F
open Go.Proofs.Ytnldmnlfocigaaa.Opn Go.Proofs.Ytnldmnlfocigaaa.Auto
open Go.RowKit Go.Proofs.YtnldmnlfocigaaaW.PrintWords Go.Proofs.YtnldmnlfocigaaaW.PrintLast
set_option linter.unusedVariables false
set_option linter.unusedSimpArgs false

theorem zf50_37 {p : Prop} (h : p := by (with_reducible repeat (first | apply Kd.R_alloc | apply Kd.R_drewN | apply Kd.R_drew)); exact Kd.R_mono HO910.out (fun _ hk => ⟨hk.1.1, hk.2⟩)) : p := h
theorem zf50_36 {p : Prop} (h : p := by simp only [putAll, Act.put, List.setIfInBounds_toArray, List.set_cons_zero, List.set_cons_succ]) : p := h
theorem zf50_35 {p : Prop} (h : p := by (with_reducible repeat (first | apply Kd.N_alloc | apply Kd.N_drewN | apply Kd.N_drew)); exact Kd.N_mono HO891.out (fun _ hk => ⟨hk.1.1, ⟨hk.1.2.1, ⟨hk.2, ⟨hk.1.2.2.1, ⟨hk.1.2.2.2.1, ⟨hk.1.2.2.2.2.2, hk.1.2.2.2.2.1⟩⟩⟩⟩⟩⟩)) : p := h
theorem zf50_34 {p : Prop} (h : p := by (with_reducible repeat (first | apply Kd.R_alloc | apply Kd.R_drewN | apply Kd.R_drew)); exact Kd.R_mono HO886.out (fun _ hk => hk.1)) : p := h
theorem zf50_33 {p : Prop} (h : p := by (with_reducible repeat (first | apply Kd.V_alloc | apply Kd.V_drewN | apply Kd.V_drew)); exact Kd.V_mono HL915_2.out (fun _ hk => ⟨hk.1.1, ⟨hk.1.2.1, ⟨hk.1.2.2.1, ⟨hk.2, ⟨hk.1.2.2.2.1, ⟨hk.1.2.2.2.2.1, ⟨hk.1.2.2.2.2.2.2, hk.1.2.2.2.2.2.1⟩⟩⟩⟩⟩⟩⟩)) : p := h
theorem zf50_32 {p : Prop} (h : p := by (with_reducible repeat (first | apply Kd.V_alloc | apply Kd.V_drewN | apply Kd.V_drew)); exact Kd.V_mono HL911_2.out (fun _ hk => ⟨hk.1.1, ⟨hk.1.2.1, ⟨hk.1.2.2.1, ⟨hk.2, ⟨hk.1.2.2.2.1, ⟨hk.1.2.2.2.2.1, ⟨hk.1.2.2.2.2.2.2, hk.1.2.2.2.2.2.1⟩⟩⟩⟩⟩⟩⟩)) : p := h
theorem zf50_31 {p : Prop} (h : p := by (with_reducible repeat (first | apply Kd.R_alloc | apply Kd.R_drewN | apply Kd.R_drew)); exact Kd.R_mono HO919.out (fun _ hk => ⟨hk.1.1, hk.2⟩)) : p := h
theorem zf50_30 {p : Prop} (h : p := by (with_reducible repeat (first | apply Kd.R_alloc | apply Kd.R_drewN | apply Kd.R_drew)); exact HO910.out) : p := h
theorem zf50_29 {p : Prop} (h : p := by (with_reducible repeat (first | apply Kd.V_alloc | apply Kd.V_drewN | apply Kd.V_drew)); exact HL915_2.out) : p := h
theorem zf50_28 {p : Prop} (h : p := by (with_reducible repeat (first | apply Kd.V_alloc | apply Kd.V_drewN | apply Kd.V_drew)); exact HL911_2.out) : p := h
theorem zf50_27 {p : Prop} (h : p := by rw [hg]; exact (below_size zf50_12)) : p := h
theorem zf50_26 {p : Prop} (h : p := by first | (rw [add_block]; exact Kd.own_blk (IsS109.own_neN HI878.out HO891.out (by decide))) | (show (Addr.add _ _).block ≠ _; rw [add_block]; exact Kd.own_blk (IsS109.own_neN HI878.out HO891.out (by decide))) | exact Kd.own_blk (IsS109.own_neN HI878.out HO891.out (by decide))) : p := h
theorem zf50_25 {p : Prop} (h : p := by (with_reducible repeat (first | apply Kd.R_alloc | apply Kd.R_drewN | apply Kd.R_drew)); exact HO914.out) : p := h
theorem zf50_24 {p : Prop} (h : p := by (with_reducible repeat (first | apply Kd.R_alloc | apply Kd.R_drewN | apply Kd.R_drew)); exact HO919.out) : p := h
theorem zf50_23 {p : Prop} (h : p := by rw [hg]; exact Nat.ne_of_gt (blk_lt (g := gb874) (o := .cells #[.int .i64 0, .int .i64 0] 49 (0, 0)) zf50_2)) : p := h
theorem zf50_22 {p : Prop} (h : p := by rw [hg]; exact Nat.ne_of_lt (blk_lt (g := gb874) (o := .cells #[.int .i64 0, .int .i64 0] 49 (0, 0)) zf50_2)) : p := h
theorem zf50_21 {p : Prop} (h : p := by repeat (first | (with_reducible exact HR915_2.out) | (with_reducible refine Kd.C_alloc ?_ _) | (with_reducible refine Kd.C_drewN ?_ _) | (with_reducible refine Kd.C_drew ?_) | exact HR915_2.out)) : p := h
theorem zf50_20 {p : Prop} (h : p := by have h_ : (t892 : Int) < ((t889.length : Int) : Int) := of_decide_eq_true zf50_17; first | exact h_ | (have e_ := (Kd.N_reads' HO891.out).1; omega) | simpa using h_) : p := h
theorem zf50_19 {p : Prop} (h : p := by repeat (first | (with_reducible exact HR911_2.out) | (with_reducible refine Kd.C_alloc ?_ _) | (with_reducible refine Kd.C_drewN ?_ _) | (with_reducible refine Kd.C_drew ?_) | exact HR911_2.out)) : p := h
theorem zf50_18 {p : Prop} (h : p := by repeat (first | (with_reducible first | exact HI878.out | apply IsS109.alloc | apply IsS109.drewN | apply IsS109.drew | apply IsS109.set_1 | apply IsS109.set_2 | refine IsS109.far ?_ NB878_874.out _) | exact HI878.out)) : p := h
theorem zf50_17 {p : Prop} (h : p := by first | (with_reducible assumption) | assumption) : p := h
theorem zf50_16 {p : Prop} (h : p := by rw [hg]; exact Nat.ne_of_gt (IsS109.lt (show IsS109 w _ g878 t875 t881 t882 from by repeat (first | (with_reducible first | exact HI878.out | apply IsS109.alloc | apply IsS109.drewN | apply IsS109.drew | apply IsS109.set_1 | apply IsS109.set_2 | refine IsS109.far ?_ NB878_874.out _) | exact HI878.out)))) : p := h
theorem zf50_15 {p : Prop} (h : p := by rw [hg]; exact Nat.ne_of_lt (IsS109.lt (show IsS109 w _ g878 t875 t881 t882 from by repeat (first | (with_reducible first | exact HI878.out | apply IsS109.alloc | apply IsS109.drewN | apply IsS109.drew | apply IsS109.set_1 | apply IsS109.set_2 | refine IsS109.far ?_ NB878_874.out _) | exact HI878.out)))) : p := h
theorem zf50_14 {p : Prop} (h : p := by (with_reducible repeat (first | apply Kd.N_alloc | apply Kd.N_drewN | apply Kd.N_drew)); exact HO891.out) : p := h
theorem zf50_13 {p : Prop} (h : p := by (with_reducible repeat (first | refine blk_drewN ?_ _ | refine blk_drew ?_ | refine blk_alloc ?_ _)); refine blk_far ?_ NB874_883.out _; (with_reducible repeat (first | refine blk_drewN ?_ _ | refine blk_drew ?_ | refine blk_alloc ?_ _)); refine blk_far ?_ NB874_883.out _; (with_reducible repeat (first | refine blk_drewN ?_ _ | refine blk_drew ?_ | refine blk_alloc ?_ _)); exact BK874.out) : p := h
theorem zf50_12 {p : Prop} (h : p := by repeat (first | (with_reducible first | exact HB.out | apply below_alloc | apply pw_below_drewN | apply below_drew1) | exact HB.out)) : p := h
theorem zf50_11 {p : Prop} (h : p := by (with_reducible repeat (first | refine blk_drewN ?_ _ | refine blk_drew ?_ | refine blk_alloc ?_ _)); refine blk_put (cs := #[.int .i64 t879, .int .i64 0]) ?_ 1 _ rfl; (with_reducible repeat (first | refine blk_drewN ?_ _ | refine blk_drew ?_ | refine blk_alloc ?_ _)); refine blk_put (cs := #[.int .i64 0, .int .i64 0]) ?_ 0 _ rfl; (with_reducible repeat (first | refine blk_drewN ?_ _ | refine blk_drew ?_ | refine blk_alloc ?_ _)); exact BK874.out) : p := h
theorem zf50_10 {p : Prop} (h : p := by (with_reducible repeat (first | refine blk_drewN ?_ _ | refine blk_drew ?_ | refine blk_alloc ?_ _)); refine blk_put (cs := #[.int .i64 t879, .int .i64 0]) ?_ 1 _ rfl; (with_reducible repeat (first | refine blk_drewN ?_ _ | refine blk_drew ?_ | refine blk_alloc ?_ _)); refine blk_put (cs := #[.int .i64 0, .int .i64 0]) ?_ 0 _ rfl; (with_reducible repeat (first | refine blk_drewN ?_ _ | refine blk_drew ?_ | refine blk_alloc ?_ _)); exact BK883.out) : p := h
theorem zf50_9 {p : Prop} (h : p := by first | (rw [add_block]; exact (Kd.N_lt HO891.out _ rfl)) | (show (Addr.add _ _).block < _; rw [add_block]; exact (Kd.N_lt HO891.out _ rfl)) | exact (Kd.N_lt HO891.out _ rfl)) : p := h
theorem zf50_8 {p : Prop} (h : p := by first | (rw [add_block]; exact (by obtain ⟨cl_, hcl_⟩ := Kd.N_typed HO891.out _ rfl; exact Kd.R_ne HO914.out hcl_ (by decide))) | (show some (Addr.add _ _).block ≠ _; rw [add_block]; exact (by obtain ⟨cl_, hcl_⟩ := Kd.N_typed HO891.out _ rfl; exact Kd.R_ne HO914.out hcl_ (by decide))) | exact (by obtain ⟨cl_, hcl_⟩ := Kd.N_typed HO891.out _ rfl; exact Kd.R_ne HO914.out hcl_ (by decide))) : p := h
theorem zf50_7 {p : Prop} (h : p := by repeat (first | (with_reducible first | exact HB.out | apply below_alloc | apply pw_below_drewN | apply below_drew1 | refine below_set ?_ (IsS109.ge HI878.out) | refine below_set ?_ GE874.out) | exact HB.out)) : p := h
theorem zf50_6 {p : Prop} (h : p := by (with_reducible repeat (first | apply Kd.R_alloc | apply Kd.R_drewN | apply Kd.R_drew)); exact HO886.out) : p := h
theorem zf50_5 {p : Prop} (h : p := by (with_reducible repeat (first | refine blk_drewN ?_ _ | refine blk_drew ?_ | refine blk_alloc ?_ _)); exact BK883.out) : p := h
theorem zf50_4 {p : Prop} (h : p := by (try simp only [List.map_toArray, List.map_cons, List.map_nil]); first | done | rfl | (simp only [List.length_drop, List.length_take]; rfl)) : p := h
theorem zf50_3 {p : Prop} (h : p := by repeat (first | (with_reducible first | exact HI878.out | apply IsS109.alloc | apply IsS109.drewN | apply IsS109.drew | apply IsS109.set_1 | apply IsS109.set_2 | refine IsS109.far ?_ NB878_874.out _ | refine IsS109.far ?_ NB878_883.out _) | exact HI878.out)) : p := h
theorem zf50_2 {p : Prop} (h : p := by (with_reducible repeat (first | refine blk_drewN ?_ _ | refine blk_drew ?_ | refine blk_alloc ?_ _)); exact BK874.out) : p := h
theorem zf50_1 {p : Prop} (h : p := by first | (rw [add_block]; exact (by obtain ⟨cl_, hcl_⟩ := Kd.N_typed HO891.out _ rfl; exact Kd.R_ne HO910.out hcl_ (by decide))) | (show some (Addr.add _ _).block ≠ _; rw [add_block]; exact (by obtain ⟨cl_, hcl_⟩ := Kd.N_typed HO891.out _ rfl; exact Kd.R_ne HO910.out hcl_ (by decide))) | exact (by obtain ⟨cl_, hcl_⟩ := Kd.N_typed HO891.out _ rfl; exact Kd.R_ne HO910.out hcl_ (by decide))) : p := h
theorem zf50_0 {p : Prop} (h : p := by repeat (first | (with_reducible first | exact HB.out | apply below_alloc | apply pw_below_drewN | apply below_drew1 | refine below_set ?_ (IsS109.ge HI878.out) | refine below_set ?_ GE874.out | refine below_set ?_ GE883.out) | exact HB.out)) : p := h
/-! ### spec_DrawBoxesOk: function 50 -/
def spec_DrawBoxesOk.f (k : Nat) (l0 : List Int) : Option (Int × Int × (List (S80)) × (List (S62))) := (spec_l01New.f k l0).bind fun bt875 => ((spec_l07AnyLimits.f bt875.1 bt875.2.1 bt875.2.2).bind fun bt879 => ((spec_l07AnyPieces.f k bt875.1 bt879.2.2.1 bt879.2.2.2 8).bind fun bt884 => ((spec_FirstFit.f k bt879.1 bt879.2.1 bt884.1).bind fun t889 => (if (t889.length : Int) > 0 then ((spec_l01Below.f bt875.1 bt884.2.1 bt884.2.2 (t889.length : Int)).bind fun bt892 => ((spec_l01Below.f bt875.1 bt892.2.1 bt892.2.2 8).bind fun bt895 => (if bt895.1 = 0 then (if 0 ≤ bt892.1 then (if bt892.1 < (t889.length : Int) then ((spec_l01PickInt.f bt875.1 bt895.2.1 bt895.2.2 (([(-1), 1] : List Int))).bind fun bt902 => (some (bt879.1, bt879.2.1, bt884.1, (t889.set (bt892.1 : Int).toNat (⟨(rd_T62 t889 bt892.1).f0, wrap64 (((rd_T62 t889 bt892.1).f1) + bt902.1), (rd_T62 t889 bt892.1).f2⟩ : S62))))) else (none)) else (none)) else (if bt895.1 = 1 then (if 0 ≤ bt892.1 then (if bt892.1 < (t889.length : Int) then (some (bt879.1, bt879.2.1, bt884.1, (t889.set (bt892.1 : Int).toNat (⟨Int.tmod (wrap64 (((rd_T62 t889 bt892.1).f0) + 1)) 6, (rd_T62 t889 bt892.1).f1, (rd_T62 t889 bt892.1).f2⟩ : S62)))) else (none)) else (none)) else (if bt895.1 = 2 then ((some (([] : List Int) : List Int)).bind fun y908 => (if 0 ≤ bt892.1 then (if bt892.1 < (t889.length : Int) then (if y908.length + ((rd_T62 t889 bt892.1).f2).length < 17592186044416 then ((some (y908 ++ ((rd_T62 t889 bt892.1).f2) : List Int)).bind fun y912 => (if 0 < (t889.length : Int) then (if 0 < (((rd_T62 t889 0).f2).length : Int) then ((some (([rd ((rd_T62 t889 0).f2) 0] : List Int) : List Int)).bind fun y917 => (if y912.length + y917.length < 17592186044416 then (some (bt879.1, bt879.2.1, bt884.1, (t889.set (bt892.1 : Int).toNat (⟨(rd_T62 t889 bt892.1).f0, (rd_T62 t889 bt892.1).f1, (y912 ++ y917)⟩ : S62)))) else (none))) else (none)) else (none))) else (none)) else (none)) else (none))) else (if bt895.1 = 3 then (if 0 ≤ (wrap64 ((t889.length : Int) - 1)) then (if (wrap64 ((t889.length : Int) - 1)) ≤ (t889.length : Int) then (some (bt879.1, bt879.2.1, bt884.1, (t889.take ((wrap64 ((t889.length : Int) - 1)) : Int).toNat))) else (none)) else (none)) else (if bt895.1 = 4 then ((some (([(⟨0, 0, ([] : List Int)⟩ : S62)] : List (S62)) : List (S62))).bind fun y927 => (if t889.length + y927.length < 3518437208883 then (some (bt879.1, bt879.2.1, bt884.1, (t889 ++ y927))) else (none))) else (if bt895.1 = 5 then ((some (([99] : List Int) : List Int)).bind fun y933 => (if 0 ≤ bt892.1 then (if bt892.1 < (t889.length : Int) then (if 1 ≤ (((rd_T62 t889 bt892.1).f2).length : Int) then ((some (((rd_T62 t889 bt892.1).f2).drop 1 : List Int)).bind fun y937 => (if y933.length + y937.length < 17592186044416 then (some (bt879.1, bt879.2.1, bt884.1, (t889.set (bt892.1 : Int).toNat (⟨(rd_T62 t889 bt892.1).f0, (rd_T62 t889 bt892.1).f1, (y933 ++ y937)⟩ : S62)))) else (none))) else (none)) else (none)) else (none))) else (some (bt879.1, bt879.2.1, bt884.1, t889)))))))))) else (some (bt879.1, bt879.2.1, bt884.1, t889))))))
theorem spec_DrawBoxesOk.mono : ∀ a0 k, LeO (spec_DrawBoxesOk.f k a0) (spec_DrawBoxesOk.f (k + 1) a0) := by
 intro a0 k
 unfold spec_DrawBoxesOk.f
 repeat' first
   | (with_reducible exact spec_FirstFit.mono _ _ _ _)
   | (with_reducible exact spec_l01New.mono _ _)
   | (with_reducible exact spec_l07AnyPieces.mono _ _ _ _ _)
   | (with_reducible exact LeO.refl _)
   | (with_reducible exact LeO.none _)
   | (with_reducible refine LeO.ite ?_ ?_)
   | (with_reducible refine LeO.bind ?_ (fun _ => ?_))
   | exact spec_FirstFit.mono _ _ _ _
   | exact spec_l01New.mono _ _
   | exact spec_l07AnyPieces.mono _ _ _ _ _
   | exact LeO.none _
   | refine LeO.ite ?_ ?_
   | refine LeO.bind ?_ (fun _ => ?_)
def spec_DrawBoxesOk.T10 : Bool × List (List Nat × List Nat) := (true, [([], []), ([], []), ([], []), ([], []), ([2, 3], [2, 3]), ([4], [4]), ([5], [5]), ([], []), ([], []), ([7, 8], [7, 8]), ([6, 9], [6, 9]), ([0, 1, 0, 1, 2, 3, 4, 5, 6, 7, 8, 9, 10], [0, 1]), ([11, 0, 1, 2, 3, 4, 5, 6, 7, 8, 9, 10], [11]), ([12, 10, 9, 0, 1, 2, 3, 4, 5, 6, 7, 8, 9, 10], [10, 12])])
def spec_DrawBoxesOk.B10 : List Nat := [0, 0, 0, 0, 12, 28, 60, 0, 0, 384, 1020, 2047, 4095, 8191]
theorem spec_DrawBoxesOk.tab10 : rtab .any (opsOf Try.f50 10) = spec_DrawBoxesOk.T10 := by kernel_rfl
theorem spec_DrawBoxesOk.bits10 : waitsOk spec_DrawBoxesOk.T10.2 spec_DrawBoxesOk.B10 = true := by kernel_rfl
def spec_DrawBoxesOk.T14 : Bool × List (List Nat × List Nat) := (true, [([], []), ([], []), ([], []), ([], []), ([], []), ([3, 4], [3, 4]), ([5], [5]), ([6], [6]), ([2, 7], [2, 7]), ([], []), ([9], [9]), ([10], [10]), ([11], [11]), ([12], [12]), ([13], [13]), ([14], [14]), ([8, 15, 8], [8, 15]), ([0, 1, 0, 1, 2, 3, 4, 5, 6, 7, 8, 9, 10, 11, 12, 13, 14, 15, 16], [0, 1]), ([17, 0, 1, 2, 3, 4, 5, 6, 7, 8, 9, 10, 11, 12, 13, 14, 15, 16], [17]), ([18, 16, 16, 0, 1, 2, 3, 4, 5, 6, 7, 8, 9, 10, 11, 12, 13, 14, 15, 16], [16, 18])])
def spec_DrawBoxesOk.B14 : List Nat := [0, 0, 0, 0, 0, 24, 56, 120, 252, 0, 512, 1536, 3584, 7680, 15872, 32256, 65532, 131071, 262143, 524287]
theorem spec_DrawBoxesOk.tab14 : rtab .any (opsOf Try.f50 14) = spec_DrawBoxesOk.T14 := by kernel_rfl
theorem spec_DrawBoxesOk.bits14 : waitsOk spec_DrawBoxesOk.T14.2 spec_DrawBoxesOk.B14 = true := by kernel_rfl
set_option maxHeartbeats 8000000 in
set_option maxRecDepth 100000 in
theorem spec_DrawBoxesOk.calls (k : Nat) (A0 : Option Addr) (c0 : Nat) (l0 : List Int) (r1 : Int) (r2 : Int) (r3 : List (S80)) (r4 : List (S62)) (w : World) (hr0 : Kd.C (Kd.int .u8) w A0 l0.length l0) (hc0 : l0.length ≤ c0) (h : spec_DrawBoxesOk.f k l0 = some (r1, r2, r3, r4)) :
  Calls Try.prog 50 #[.slice A0 l0.length c0] w fun e w' => ∃ v2_ v3_ : Value, e = .returned (.tuple #[.agg #[.int .i64 r1, .int .i64 r2], v2_, v3_]) ∧ Kd.R k80 80 w' w.heap.size (fun k_ => (w.heap.size ≤ k_)) v2_ r3 ∧ Kd.N k62 62 w' w.heap.size (fun k_ => (w.heap.size ≤ k_) ∧ some k_ ≠ (v2_ : Value).ownBlock) v3_ r4 ∧ Below w.heap.size w w' := by
 have hu49 := Try.underlying49
 have hu62 := Try.underlying62
 have HR0 := Aside0.mk hr0
 have HC0 := Aside0.mk hc0
 clear hr0 hc0
 have HB := Aside0.mk (Below.refl w.heap.size w)
 have H : ((spec_l01New.f k l0).bind fun bt875 => ((spec_l07AnyLimits.f bt875.1 bt875.2.1 bt875.2.2).bind fun bt879 => ((spec_l07AnyPieces.f k bt875.1 bt879.2.2.1 bt879.2.2.2 8).bind fun bt884 => ((spec_FirstFit.f k bt879.1 bt879.2.1 bt884.1).bind fun t889 => (if (t889.length : Int) > 0 then ((spec_l01Below.f bt875.1 bt884.2.1 bt884.2.2 (t889.length : Int)).bind fun bt892 => ((spec_l01Below.f bt875.1 bt892.2.1 bt892.2.2 8).bind fun bt895 => (if bt895.1 = 0 then (if 0 ≤ bt892.1 then (if bt892.1 < (t889.length : Int) then ((spec_l01PickInt.f bt875.1 bt895.2.1 bt895.2.2 (([(-1), 1] : List Int))).bind fun bt902 => (some (bt879.1, bt879.2.1, bt884.1, (t889.set (bt892.1 : Int).toNat (⟨(rd_T62 t889 bt892.1).f0, wrap64 (((rd_T62 t889 bt892.1).f1) + bt902.1), (rd_T62 t889 bt892.1).f2⟩ : S62))))) else (none)) else (none)) else (if bt895.1 = 1 then (if 0 ≤ bt892.1 then (if bt892.1 < (t889.length : Int) then (some (bt879.1, bt879.2.1, bt884.1, (t889.set (bt892.1 : Int).toNat (⟨Int.tmod (wrap64 (((rd_T62 t889 bt892.1).f0) + 1)) 6, (rd_T62 t889 bt892.1).f1, (rd_T62 t889 bt892.1).f2⟩ : S62)))) else (none)) else (none)) else (if bt895.1 = 2 then ((some (([] : List Int) : List Int)).bind fun y908 => (if 0 ≤ bt892.1 then (if bt892.1 < (t889.length : Int) then (if y908.length + ((rd_T62 t889 bt892.1).f2).length < 17592186044416 then ((some (y908 ++ ((rd_T62 t889 bt892.1).f2) : List Int)).bind fun y912 => (if 0 < (t889.length : Int) then (if 0 < (((rd_T62 t889 0).f2).length : Int) then ((some (([rd ((rd_T62 t889 0).f2) 0] : List Int) : List Int)).bind fun y917 => (if y912.length + y917.length < 17592186044416 then (some (bt879.1, bt879.2.1, bt884.1, (t889.set (bt892.1 : Int).toNat (⟨(rd_T62 t889 bt892.1).f0, (rd_T62 t889 bt892.1).f1, (y912 ++ y917)⟩ : S62)))) else (none))) else (none)) else (none))) else (none)) else (none)) else (none))) else (if bt895.1 = 3 then (if 0 ≤ (wrap64 ((t889.length : Int) - 1)) then (if (wrap64 ((t889.length : Int) - 1)) ≤ (t889.length : Int) then (some (bt879.1, bt879.2.1, bt884.1, (t889.take ((wrap64 ((t889.length : Int) - 1)) : Int).toNat))) else (none)) else (none)) else (if bt895.1 = 4 then ((some (([(⟨0, 0, ([] : List Int)⟩ : S62)] : List (S62)) : List (S62))).bind fun y927 => (if t889.length + y927.length < 3518437208883 then (some (bt879.1, bt879.2.1, bt884.1, (t889 ++ y927))) else (none))) else (if bt895.1 = 5 then ((some (([99] : List Int) : List Int)).bind fun y933 => (if 0 ≤ bt892.1 then (if bt892.1 < (t889.length : Int) then (if 1 ≤ (((rd_T62 t889 bt892.1).f2).length : Int) then ((some (((rd_T62 t889 bt892.1).f2).drop 1 : List Int)).bind fun y937 => (if y933.length + y937.length < 17592186044416 then (some (bt879.1, bt879.2.1, bt884.1, (t889.set (bt892.1 : Int).toNat (⟨(rd_T62 t889 bt892.1).f0, (rd_T62 t889 bt892.1).f1, (y933 ++ y937)⟩ : S62)))) else (none))) else (none)) else (none)) else (none))) else (some (bt879.1, bt879.2.1, bt884.1, t889)))))))))) else (some (bt879.1, bt879.2.1, bt884.1, t889))))))) = some (r1, r2, r3, r4) := h
 clear h
 replace H := Option.bind_eq_some_iff.mp H
 obtain ⟨⟨t875, t876, t877⟩, A20, H⟩ := H
 replace H : ((spec_l07AnyLimits.f t875 t876 t877).bind fun bt879 => ((spec_l07AnyPieces.f k t875 bt879.2.2.1 bt879.2.2.2 8).bind fun bt884 => ((spec_FirstFit.f k bt879.1 bt879.2.1 bt884.1).bind fun t889 => (if (t889.length : Int) > 0 then ((spec_l01Below.f t875 bt884.2.1 bt884.2.2 (t889.length : Int)).bind fun bt892 => ((spec_l01Below.f t875 bt892.2.1 bt892.2.2 8).bind fun bt895 => (if bt895.1 = 0 then (if 0 ≤ bt892.1 then (if bt892.1 < (t889.length : Int) then ((spec_l01PickInt.f t875 bt895.2.1 bt895.2.2 (([(-1), 1] : List Int))).bind fun bt902 => (some (bt879.1, bt879.2.1, bt884.1, (t889.set (bt892.1 : Int).toNat (⟨(rd_T62 t889 bt892.1).f0, wrap64 (((rd_T62 t889 bt892.1).f1) + bt902.1), (rd_T62 t889 bt892.1).f2⟩ : S62))))) else (none)) else (none)) else (if bt895.1 = 1 then (if 0 ≤ bt892.1 then (if bt892.1 < (t889.length : Int) then (some (bt879.1, bt879.2.1, bt884.1, (t889.set (bt892.1 : Int).toNat (⟨Int.tmod (wrap64 (((rd_T62 t889 bt892.1).f0) + 1)) 6, (rd_T62 t889 bt892.1).f1, (rd_T62 t889 bt892.1).f2⟩ : S62)))) else (none)) else (none)) else (if bt895.1 = 2 then ((some (([] : List Int) : List Int)).bind fun y908 => (if 0 ≤ bt892.1 then (if bt892.1 < (t889.length : Int) then (if y908.length + ((rd_T62 t889 bt892.1).f2).length < 17592186044416 then ((some (y908 ++ ((rd_T62 t889 bt892.1).f2) : List Int)).bind fun y912 => (if 0 < (t889.length : Int) then (if 0 < (((rd_T62 t889 0).f2).length : Int) then ((some (([rd ((rd_T62 t889 0).f2) 0] : List Int) : List Int)).bind fun y917 => (if y912.length + y917.length < 17592186044416 then (some (bt879.1, bt879.2.1, bt884.1, (t889.set (bt892.1 : Int).toNat (⟨(rd_T62 t889 bt892.1).f0, (rd_T62 t889 bt892.1).f1, (y912 ++ y917)⟩ : S62)))) else (none))) else (none)) else (none))) else (none)) else (none)) else (none))) else (if bt895.1 = 3 then (if 0 ≤ (wrap64 ((t889.length : Int) - 1)) then (if (wrap64 ((t889.length : Int) - 1)) ≤ (t889.length : Int) then (some (bt879.1, bt879.2.1, bt884.1, (t889.take ((wrap64 ((t889.length : Int) - 1)) : Int).toNat))) else (none)) else (none)) else (if bt895.1 = 4 then ((some (([(⟨0, 0, ([] : List Int)⟩ : S62)] : List (S62)) : List (S62))).bind fun y927 => (if t889.length + y927.length < 3518437208883 then (some (bt879.1, bt879.2.1, bt884.1, (t889 ++ y927))) else (none))) else (if bt895.1 = 5 then ((some (([99] : List Int) : List Int)).bind fun y933 => (if 0 ≤ bt892.1 then (if bt892.1 < (t889.length : Int) then (if 1 ≤ (((rd_T62 t889 bt892.1).f2).length : Int) then ((some (((rd_T62 t889 bt892.1).f2).drop 1 : List Int)).bind fun y937 => (if y933.length + y937.length < 17592186044416 then (some (bt879.1, bt879.2.1, bt884.1, (t889.set (bt892.1 : Int).toNat (⟨(rd_T62 t889 bt892.1).f0, (rd_T62 t889 bt892.1).f1, (y933 ++ y937)⟩ : S62)))) else (none))) else (none)) else (none)) else (none))) else (some (bt879.1, bt879.2.1, bt884.1, t889)))))))))) else (some (bt879.1, bt879.2.1, bt884.1, t889)))))) = some (r1, r2, r3, r4) := H
 have A2 := Aside0.mk A20
 clear A20
 replace H := Option.bind_eq_some_iff.mp H
 obtain ⟨⟨t879, t880, t881, t882⟩, A30, H⟩ := H
 replace H : ((spec_l07AnyPieces.f k t875 t881 t882 8).bind fun bt884 => ((spec_FirstFit.f k t879 t880 bt884.1).bind fun t889 => (if (t889.length : Int) > 0 then ((spec_l01Below.f t875 bt884.2.1 bt884.2.2 (t889.length : Int)).bind fun bt892 => ((spec_l01Below.f t875 bt892.2.1 bt892.2.2 8).bind fun bt895 => (if bt895.1 = 0 then (if 0 ≤ bt892.1 then (if bt892.1 < (t889.length : Int) then ((spec_l01PickInt.f t875 bt895.2.1 bt895.2.2 (([(-1), 1] : List Int))).bind fun bt902 => (some (t879, t880, bt884.1, (t889.set (bt892.1 : Int).toNat (⟨(rd_T62 t889 bt892.1).f0, wrap64 (((rd_T62 t889 bt892.1).f1) + bt902.1), (rd_T62 t889 bt892.1).f2⟩ : S62))))) else (none)) else (none)) else (if bt895.1 = 1 then (if 0 ≤ bt892.1 then (if bt892.1 < (t889.length : Int) then (some (t879, t880, bt884.1, (t889.set (bt892.1 : Int).toNat (⟨Int.tmod (wrap64 (((rd_T62 t889 bt892.1).f0) + 1)) 6, (rd_T62 t889 bt892.1).f1, (rd_T62 t889 bt892.1).f2⟩ : S62)))) else (none)) else (none)) else (if bt895.1 = 2 then ((some (([] : List Int) : List Int)).bind fun y908 => (if 0 ≤ bt892.1 then (if bt892.1 < (t889.length : Int) then (if y908.length + ((rd_T62 t889 bt892.1).f2).length < 17592186044416 then ((some (y908 ++ ((rd_T62 t889 bt892.1).f2) : List Int)).bind fun y912 => (if 0 < (t889.length : Int) then (if 0 < (((rd_T62 t889 0).f2).length : Int) then ((some (([rd ((rd_T62 t889 0).f2) 0] : List Int) : List Int)).bind fun y917 => (if y912.length + y917.length < 17592186044416 then (some (t879, t880, bt884.1, (t889.set (bt892.1 : Int).toNat (⟨(rd_T62 t889 bt892.1).f0, (rd_T62 t889 bt892.1).f1, (y912 ++ y917)⟩ : S62)))) else (none))) else (none)) else (none))) else (none)) else (none)) else (none))) else (if bt895.1 = 3 then (if 0 ≤ (wrap64 ((t889.length : Int) - 1)) then (if (wrap64 ((t889.length : Int) - 1)) ≤ (t889.length : Int) then (some (t879, t880, bt884.1, (t889.take ((wrap64 ((t889.length : Int) - 1)) : Int).toNat))) else (none)) else (none)) else (if bt895.1 = 4 then ((some (([(⟨0, 0, ([] : List Int)⟩ : S62)] : List (S62)) : List (S62))).bind fun y927 => (if t889.length + y927.length < 3518437208883 then (some (t879, t880, bt884.1, (t889 ++ y927))) else (none))) else (if bt895.1 = 5 then ((some (([99] : List Int) : List Int)).bind fun y933 => (if 0 ≤ bt892.1 then (if bt892.1 < (t889.length : Int) then (if 1 ≤ (((rd_T62 t889 bt892.1).f2).length : Int) then ((some (((rd_T62 t889 bt892.1).f2).drop 1 : List Int)).bind fun y937 => (if y933.length + y937.length < 17592186044416 then (some (t879, t880, bt884.1, (t889.set (bt892.1 : Int).toNat (⟨(rd_T62 t889 bt892.1).f0, (rd_T62 t889 bt892.1).f1, (y933 ++ y937)⟩ : S62)))) else (none))) else (none)) else (none)) else (none))) else (some (t879, t880, bt884.1, t889)))))))))) else (some (t879, t880, bt884.1, t889))))) = some (r1, r2, r3, r4) := H
 have A3 := Aside0.mk A30
 clear A30
 replace H := Option.bind_eq_some_iff.mp H
 obtain ⟨⟨t884, t887, t888⟩, A40, H⟩ := H
 replace H : ((spec_FirstFit.f k t879 t880 t884).bind fun t889 => (if (t889.length : Int) > 0 then ((spec_l01Below.f t875 t887 t888 (t889.length : Int)).bind fun bt892 => ((spec_l01Below.f t875 bt892.2.1 bt892.2.2 8).bind fun bt895 => (if bt895.1 = 0 then (if 0 ≤ bt892.1 then (if bt892.1 < (t889.length : Int) then ((spec_l01PickInt.f t875 bt895.2.1 bt895.2.2 (([(-1), 1] : List Int))).bind fun bt902 => (some (t879, t880, t884, (t889.set (bt892.1 : Int).toNat (⟨(rd_T62 t889 bt892.1).f0, wrap64 (((rd_T62 t889 bt892.1).f1) + bt902.1), (rd_T62 t889 bt892.1).f2⟩ : S62))))) else (none)) else (none)) else (if bt895.1 = 1 then (if 0 ≤ bt892.1 then (if bt892.1 < (t889.length : Int) then (some (t879, t880, t884, (t889.set (bt892.1 : Int).toNat (⟨Int.tmod (wrap64 (((rd_T62 t889 bt892.1).f0) + 1)) 6, (rd_T62 t889 bt892.1).f1, (rd_T62 t889 bt892.1).f2⟩ : S62)))) else (none)) else (none)) else (if bt895.1 = 2 then ((some (([] : List Int) : List Int)).bind fun y908 => (if 0 ≤ bt892.1 then (if bt892.1 < (t889.length : Int) then (if y908.length + ((rd_T62 t889 bt892.1).f2).length < 17592186044416 then ((some (y908 ++ ((rd_T62 t889 bt892.1).f2) : List Int)).bind fun y912 => (if 0 < (t889.length : Int) then (if 0 < (((rd_T62 t889 0).f2).length : Int) then ((some (([rd ((rd_T62 t889 0).f2) 0] : List Int) : List Int)).bind fun y917 => (if y912.length + y917.length < 17592186044416 then (some (t879, t880, t884, (t889.set (bt892.1 : Int).toNat (⟨(rd_T62 t889 bt892.1).f0, (rd_T62 t889 bt892.1).f1, (y912 ++ y917)⟩ : S62)))) else (none))) else (none)) else (none))) else (none)) else (none)) else (none))) else (if bt895.1 = 3 then (if 0 ≤ (wrap64 ((t889.length : Int) - 1)) then (if (wrap64 ((t889.length : Int) - 1)) ≤ (t889.length : Int) then (some (t879, t880, t884, (t889.take ((wrap64 ((t889.length : Int) - 1)) : Int).toNat))) else (none)) else (none)) else (if bt895.1 = 4 then ((some (([(⟨0, 0, ([] : List Int)⟩ : S62)] : List (S62)) : List (S62))).bind fun y927 => (if t889.length + y927.length < 3518437208883 then (some (t879, t880, t884, (t889 ++ y927))) else (none))) else (if bt895.1 = 5 then ((some (([99] : List Int) : List Int)).bind fun y933 => (if 0 ≤ bt892.1 then (if bt892.1 < (t889.length : Int) then (if 1 ≤ (((rd_T62 t889 bt892.1).f2).length : Int) then ((some (((rd_T62 t889 bt892.1).f2).drop 1 : List Int)).bind fun y937 => (if y933.length + y937.length < 17592186044416 then (some (t879, t880, t884, (t889.set (bt892.1 : Int).toNat (⟨(rd_T62 t889 bt892.1).f0, (rd_T62 t889 bt892.1).f1, (y933 ++ y937)⟩ : S62)))) else (none))) else (none)) else (none)) else (none))) else (some (t879, t880, t884, t889)))))))))) else (some (t879, t880, t884, t889)))) = some (r1, r2, r3, r4) := H
 have A4 := Aside0.mk A40
 clear A40
 replace H := Option.bind_eq_some_iff.mp H
 obtain ⟨t889, A50, H⟩ := H
 replace H : (if (t889.length : Int) > 0 then ((spec_l01Below.f t875 t887 t888 (t889.length : Int)).bind fun bt892 => ((spec_l01Below.f t875 bt892.2.1 bt892.2.2 8).bind fun bt895 => (if bt895.1 = 0 then (if 0 ≤ bt892.1 then (if bt892.1 < (t889.length : Int) then ((spec_l01PickInt.f t875 bt895.2.1 bt895.2.2 (([(-1), 1] : List Int))).bind fun bt902 => (some (t879, t880, t884, (t889.set (bt892.1 : Int).toNat (⟨(rd_T62 t889 bt892.1).f0, wrap64 (((rd_T62 t889 bt892.1).f1) + bt902.1), (rd_T62 t889 bt892.1).f2⟩ : S62))))) else (none)) else (none)) else (if bt895.1 = 1 then (if 0 ≤ bt892.1 then (if bt892.1 < (t889.length : Int) then (some (t879, t880, t884, (t889.set (bt892.1 : Int).toNat (⟨Int.tmod (wrap64 (((rd_T62 t889 bt892.1).f0) + 1)) 6, (rd_T62 t889 bt892.1).f1, (rd_T62 t889 bt892.1).f2⟩ : S62)))) else (none)) else (none)) else (if bt895.1 = 2 then ((some (([] : List Int) : List Int)).bind fun y908 => (if 0 ≤ bt892.1 then (if bt892.1 < (t889.length : Int) then (if y908.length + ((rd_T62 t889 bt892.1).f2).length < 17592186044416 then ((some (y908 ++ ((rd_T62 t889 bt892.1).f2) : List Int)).bind fun y912 => (if 0 < (t889.length : Int) then (if 0 < (((rd_T62 t889 0).f2).length : Int) then ((some (([rd ((rd_T62 t889 0).f2) 0] : List Int) : List Int)).bind fun y917 => (if y912.length + y917.length < 17592186044416 then (some (t879, t880, t884, (t889.set (bt892.1 : Int).toNat (⟨(rd_T62 t889 bt892.1).f0, (rd_T62 t889 bt892.1).f1, (y912 ++ y917)⟩ : S62)))) else (none))) else (none)) else (none))) else (none)) else (none)) else (none))) else (if bt895.1 = 3 then (if 0 ≤ (wrap64 ((t889.length : Int) - 1)) then (if (wrap64 ((t889.length : Int) - 1)) ≤ (t889.length : Int) then (some (t879, t880, t884, (t889.take ((wrap64 ((t889.length : Int) - 1)) : Int).toNat))) else (none)) else (none)) else (if bt895.1 = 4 then ((some (([(⟨0, 0, ([] : List Int)⟩ : S62)] : List (S62)) : List (S62))).bind fun y927 => (if t889.length + y927.length < 3518437208883 then (some (t879, t880, t884, (t889 ++ y927))) else (none))) else (if bt895.1 = 5 then ((some (([99] : List Int) : List Int)).bind fun y933 => (if 0 ≤ bt892.1 then (if bt892.1 < (t889.length : Int) then (if 1 ≤ (((rd_T62 t889 bt892.1).f2).length : Int) then ((some (((rd_T62 t889 bt892.1).f2).drop 1 : List Int)).bind fun y937 => (if y933.length + y937.length < 17592186044416 then (some (t879, t880, t884, (t889.set (bt892.1 : Int).toNat (⟨(rd_T62 t889 bt892.1).f0, (rd_T62 t889 bt892.1).f1, (y933 ++ y937)⟩ : S62)))) else (none))) else (none)) else (none)) else (none))) else (some (t879, t880, t884, t889)))))))))) else (some (t879, t880, t884, t889))) = some (r1, r2, r3, r4) := H
 have A5 := Aside0.mk A50
 clear A50
 by_cases c6 : (t889.length : Int) > 0
 ·
  rw [if_pos c6] at H
  have c6b0 : decide (0 < (t889.length : Int)) = true := decide_eq_true c6
  have c6b1 : decide (0 < t889.length) = true := decide_eq_true (by omega)
  clear c6
  replace H := Option.bind_eq_some_iff.mp H
  obtain ⟨⟨t892, t893, t894⟩, A70, H⟩ := H
  replace H : ((spec_l01Below.f t875 t893 t894 8).bind fun bt895 => (if bt895.1 = 0 then (if 0 ≤ t892 then (if t892 < (t889.length : Int) then ((spec_l01PickInt.f t875 bt895.2.1 bt895.2.2 (([(-1), 1] : List Int))).bind fun bt902 => (some (t879, t880, t884, (t889.set (t892 : Int).toNat (⟨(rd_T62 t889 t892).f0, wrap64 (((rd_T62 t889 t892).f1) + bt902.1), (rd_T62 t889 t892).f2⟩ : S62))))) else (none)) else (none)) else (if bt895.1 = 1 then (if 0 ≤ t892 then (if t892 < (t889.length : Int) then (some (t879, t880, t884, (t889.set (t892 : Int).toNat (⟨Int.tmod (wrap64 (((rd_T62 t889 t892).f0) + 1)) 6, (rd_T62 t889 t892).f1, (rd_T62 t889 t892).f2⟩ : S62)))) else (none)) else (none)) else (if bt895.1 = 2 then ((some (([] : List Int) : List Int)).bind fun y908 => (if 0 ≤ t892 then (if t892 < (t889.length : Int) then (if y908.length + ((rd_T62 t889 t892).f2).length < 17592186044416 then ((some (y908 ++ ((rd_T62 t889 t892).f2) : List Int)).bind fun y912 => (if 0 < (t889.length : Int) then (if 0 < (((rd_T62 t889 0).f2).length : Int) then ((some (([rd ((rd_T62 t889 0).f2) 0] : List Int) : List Int)).bind fun y917 => (if y912.length + y917.length < 17592186044416 then (some (t879, t880, t884, (t889.set (t892 : Int).toNat (⟨(rd_T62 t889 t892).f0, (rd_T62 t889 t892).f1, (y912 ++ y917)⟩ : S62)))) else (none))) else (none)) else (none))) else (none)) else (none)) else (none))) else (if bt895.1 = 3 then (if 0 ≤ (wrap64 ((t889.length : Int) - 1)) then (if (wrap64 ((t889.length : Int) - 1)) ≤ (t889.length : Int) then (some (t879, t880, t884, (t889.take ((wrap64 ((t889.length : Int) - 1)) : Int).toNat))) else (none)) else (none)) else (if bt895.1 = 4 then ((some (([(⟨0, 0, ([] : List Int)⟩ : S62)] : List (S62)) : List (S62))).bind fun y927 => (if t889.length + y927.length < 3518437208883 then (some (t879, t880, t884, (t889 ++ y927))) else (none))) else (if bt895.1 = 5 then ((some (([99] : List Int) : List Int)).bind fun y933 => (if 0 ≤ t892 then (if t892 < (t889.length : Int) then (if 1 ≤ (((rd_T62 t889 t892).f2).length : Int) then ((some (((rd_T62 t889 t892).f2).drop 1 : List Int)).bind fun y937 => (if y933.length + y937.length < 17592186044416 then (some (t879, t880, t884, (t889.set (t892 : Int).toNat (⟨(rd_T62 t889 t892).f0, (rd_T62 t889 t892).f1, (y933 ++ y937)⟩ : S62)))) else (none))) else (none)) else (none)) else (none))) else (some (t879, t880, t884, t889))))))))) = some (r1, r2, r3, r4) := H
  have A7 := Aside0.mk A70
  clear A70
  replace H := Option.bind_eq_some_iff.mp H
  obtain ⟨⟨t895, t896, t897⟩, A80, H⟩ := H
  replace H : (if t895 = 0 then (if 0 ≤ t892 then (if t892 < (t889.length : Int) then ((spec_l01PickInt.f t875 t896 t897 (([(-1), 1] : List Int))).bind fun bt902 => (some (t879, t880, t884, (t889.set (t892 : Int).toNat (⟨(rd_T62 t889 t892).f0, wrap64 (((rd_T62 t889 t892).f1) + bt902.1), (rd_T62 t889 t892).f2⟩ : S62))))) else (none)) else (none)) else (if t895 = 1 then (if 0 ≤ t892 then (if t892 < (t889.length : Int) then (some (t879, t880, t884, (t889.set (t892 : Int).toNat (⟨Int.tmod (wrap64 (((rd_T62 t889 t892).f0) + 1)) 6, (rd_T62 t889 t892).f1, (rd_T62 t889 t892).f2⟩ : S62)))) else (none)) else (none)) else (if t895 = 2 then ((some (([] : List Int) : List Int)).bind fun y908 => (if 0 ≤ t892 then (if t892 < (t889.length : Int) then (if y908.length + ((rd_T62 t889 t892).f2).length < 17592186044416 then ((some (y908 ++ ((rd_T62 t889 t892).f2) : List Int)).bind fun y912 => (if 0 < (t889.length : Int) then (if 0 < (((rd_T62 t889 0).f2).length : Int) then ((some (([rd ((rd_T62 t889 0).f2) 0] : List Int) : List Int)).bind fun y917 => (if y912.length + y917.length < 17592186044416 then (some (t879, t880, t884, (t889.set (t892 : Int).toNat (⟨(rd_T62 t889 t892).f0, (rd_T62 t889 t892).f1, (y912 ++ y917)⟩ : S62)))) else (none))) else (none)) else (none))) else (none)) else (none)) else (none))) else (if t895 = 3 then (if 0 ≤ (wrap64 ((t889.length : Int) - 1)) then (if (wrap64 ((t889.length : Int) - 1)) ≤ (t889.length : Int) then (some (t879, t880, t884, (t889.take ((wrap64 ((t889.length : Int) - 1)) : Int).toNat))) else (none)) else (none)) else (if t895 = 4 then ((some (([(⟨0, 0, ([] : List Int)⟩ : S62)] : List (S62)) : List (S62))).bind fun y927 => (if t889.length + y927.length < 3518437208883 then (some (t879, t880, t884, (t889 ++ y927))) else (none))) else (if t895 = 5 then ((some (([99] : List Int) : List Int)).bind fun y933 => (if 0 ≤ t892 then (if t892 < (t889.length : Int) then (if 1 ≤ (((rd_T62 t889 t892).f2).length : Int) then ((some (((rd_T62 t889 t892).f2).drop 1 : List Int)).bind fun y937 => (if y933.length + y937.length < 17592186044416 then (some (t879, t880, t884, (t889.set (t892 : Int).toNat (⟨(rd_T62 t889 t892).f0, (rd_T62 t889 t892).f1, (y933 ++ y937)⟩ : S62)))) else (none))) else (none)) else (none)) else (none))) else (some (t879, t880, t884, t889)))))))) = some (r1, r2, r3, r4) := H
  have A8 := Aside0.mk A80
  clear A80
  by_cases c9 : t895 = 0
  ·
   rw [if_pos c9] at H
   have c9b0 : (t895 == 0) = true := beq_iff_eq.mpr c9
   have c9b1 : (t895 != 0) = false := bne_eq_false_iff_eq.mpr c9
   clear c9
   by_cases c10 : 0 ≤ t892
   ·
    rw [if_pos c10] at H
    have c10b0 : decide (0 ≤ t892) = true := decide_eq_true c10
    clear c10
    by_cases c11 : t892 < (t889.length : Int)
    ·
     rw [if_pos c11] at H
     have c11b0 : decide (t892 < (t889.length : Int)) = true := decide_eq_true c11
     clear c11
     obtain ⟨y899, hy899⟩ : ∃ y_ : List Int, y_ = (([(-1), 1] : List Int)) := ⟨_, rfl⟩
     replace H : ((spec_l01PickInt.f t875 t896 t897 y899).bind fun bt902 => (some (t879, t880, t884, (t889.set (t892 : Int).toNat (⟨(rd_T62 t889 t892).f0, wrap64 (((rd_T62 t889 t892).f1) + bt902.1), (rd_T62 t889 t892).f2⟩ : S62))))) = some (r1, r2, r3, r4) := by first | (rw [hy899]; with_reducible exact H) | (have H2_ := (Option.bind_some _ _).symm.trans H; rw [hy899]; with_reducible exact H2_) | (have H2_ := (Option.bind_some _ _).symm.trans H; with_reducible exact H2_) | with_reducible exact H | (rw [hy899]; exact H) | exact H
     have Ny899 := Aside0.mk hy899
     clear hy899
     replace H := Option.bind_eq_some_iff.mp H
     obtain ⟨⟨t902, t903, t904⟩, A120, H⟩ := H
     replace H : (some (t879, t880, t884, (t889.set (t892 : Int).toNat (⟨(rd_T62 t889 t892).f0, wrap64 (((rd_T62 t889 t892).f1) + t902), (rd_T62 t889 t892).f2⟩ : S62)))) = some (r1, r2, r3, r4) := H
     have A12 := Aside0.mk A120
     clear A120
     obtain ⟨y905, hy905⟩ : ∃ y_ : List (S62), y_ = (t889.set (t892 : Int).toNat (⟨(rd_T62 t889 t892).f0, wrap64 (((rd_T62 t889 t892).f1) + t902), (rd_T62 t889 t892).f2⟩ : S62)) := ⟨_, rfl⟩
     replace H : (some (t879, t880, t884, y905)) = some (r1, r2, r3, r4) := by first | (rw [hy905]; with_reducible exact H) | (have H2_ := (Option.bind_some _ _).symm.trans H; rw [hy905]; with_reducible exact H2_) | (have H2_ := (Option.bind_some _ _).symm.trans H; with_reducible exact H2_) | with_reducible exact H | (rw [hy905]; exact H) | exact H
     have Ny905 := Aside0.mk hy905
     clear hy905
     simp only [Option.some.injEq, Prod.mk.injEq] at H
     obtain ⟨rfl, rfl, rfl, rfl⟩ := H
     go_enter Try.func50, Try.ntmps50
     try go_wp2_with (first | ((with_reducible refine gate_dst (N := 2) rfl ?_); refine box_event ?hg (N := 2) ?hd (cs := #[.int .i64 0, .int .i64 0]) (t := 49) ?hr ?_; (case hd => rfl); (case hg => rfl); (case hr => first | (go_simp; done) | (go_simp; rfl)); intro gb874 hg w14 hbox hb; have n0_ := Aside0.mk (below_step zf50_12 hb); have n1_ := Aside0.mk (hbox); have n2_ := Aside0.mk ((zf50_27 : w.heap.size ≤ gb874)); have n3_ := Aside0.mk ((zf50_27 : w.heap.size ≤ gb874)); clear HB; have HB := n0_; have BK874 := n1_; have GW874 := n2_; have GE874 := n3_; clear n0_ n1_ n2_ n3_; clear hb hbox hg) | ((with_reducible refine gate_callee (f := 66) rfl ?_); refine goesL_ (some 12) rfl rfl Try.func66 (by kernel_rfl) rfl #[.slice A0 l0.length c0] rfl zf50_4 ?_; (with_reducible refine (spec_l01New.calls k _ _ l0 t875 t876 t877 w _ ?side1 ?side2 ?side3 A2.out).mono ?_); (case side1 => repeat (first | (with_reducible first | exact HB.out | apply below_alloc | apply pw_below_drewN | apply below_drew1 | refine below_set ?_ GE874.out) | exact HB.out)); (case side2 => exact HR0.out); (case side3 => exact HC0.out); rintro e w15 ⟨g878, rfl, hi, hb, hb2⟩; refine ⟨_, rfl, ?_⟩; have n0_ := Aside0.mk (blk_below (g := gb874) (o := .cells #[.int .i64 0, .int .i64 0] 49 (0, 0)) zf50_2 hb2); have n1_ := Aside0.mk (hb); have n2_ := Aside0.mk (hi); have n3_ := Aside0.mk (IsS109.ne_blk hi (blk_below (g := gb874) (o := .cells #[.int .i64 0, .int .i64 0] 49 (0, 0)) zf50_2 hb2) (by decide)); have n4_ := Aside0.mk (Ne.symm (IsS109.ne_blk hi (blk_below (g := gb874) (o := .cells #[.int .i64 0, .int .i64 0] 49 (0, 0)) zf50_2 hb2) (by decide))); clear BK874; clear HB; have BK874 := n0_; have HB := n1_; have HI878 := n2_; have NB878_874 := n3_; have NB874_878 := n4_; clear n0_ n1_ n2_ n3_ n4_; (try clear hb); (try clear hb2); (try clear hk); (try clear hi)) | ((with_reducible refine gate_callee (f := 85) rfl ?_); refine goesL_ (some 14) rfl rfl Try.func85 (by kernel_rfl) rfl #[.pointer (some ⟨g878, 0, none⟩)] rfl zf50_4 ?_; (with_reducible refine (spec_l07AnyLimits.calls g878 t875 t876 t877 t879 t880 t881 t882 w _ ?side1 ?side2 A3.out).mono ?_); (case side1 => repeat (first | (with_reducible first | exact HI878.out | apply IsS109.alloc | apply IsS109.drewN | apply IsS109.drew | apply IsS109.set_1 | apply IsS109.set_2 | refine IsS109.far ?_ NB878_874.out _) | exact HI878.out)); (case side2 => repeat (first | (with_reducible first | exact HB.out | apply below_alloc | apply pw_below_drewN | apply below_drew1 | refine below_set ?_ (IsS109.ge HI878.out) | refine below_set ?_ GE874.out) | exact HB.out)); rintro e w16 ⟨rfl, hi, hb, hk⟩; refine ⟨_, rfl, ?_⟩; have n0_ := Aside0.mk (KeepBut.blk hk (g' := gb874) (o := .cells #[.int .i64 0, .int .i64 0] 49 (0, 0)) zf50_2 NB874_878.out (by simp)); have n1_ := Aside0.mk (hb); have n2_ := Aside0.mk (hi); clear BK874; clear HB; clear HI878; have BK874 := n0_; have HB := n1_; have HI878 := n2_; clear n0_ n1_ n2_; (try clear hb); (try clear hb2); (try clear hk); (try clear hi)) | ((with_reducible refine gate_dst (N := 6) rfl ?_); refine box_event ?hg (N := 6) ?hd (cs := #[.int .i64 0, .int .i64 0]) (t := 49) ?hr ?_; (case hd => rfl); (case hg => rfl); (case hr => first | (go_simp; done) | (go_simp; rfl)); intro gb883 hg w17 hbox hb; have n0_ := Aside0.mk (blk_below (g := gb874) (o := .cells #[.int .i64 0, .int .i64 0] 49 (0, 0)) zf50_2 hb); have n1_ := Aside0.mk (IsS109.below zf50_18 hb); have n2_ := Aside0.mk (below_step zf50_7 hb); have n3_ := Aside0.mk (hbox); have n4_ := Aside0.mk ((by rw [hg]; exact (below_size zf50_7) : w.heap.size ≤ gb883)); have n5_ := Aside0.mk ((by rw [hg]; exact (below_size zf50_7) : w.heap.size ≤ gb883)); have n6_ := Aside0.mk ((zf50_22 : gb874 ≠ gb883)); have n7_ := Aside0.mk ((zf50_23 : gb883 ≠ gb874)); have n8_ := Aside0.mk ((zf50_15 : g878 ≠ gb883)); have n9_ := Aside0.mk ((zf50_16 : gb883 ≠ g878)); clear BK874; clear HI878; clear HB; have BK874 := n0_; have HI878 := n1_; have HB := n2_; have BK883 := n3_; have GW883 := n4_; have GE883 := n5_; have NB874_883 := n6_; have NB883_874 := n7_; have NB878_883 := n8_; have NB883_878 := n9_; clear n0_ n1_ n2_ n3_ n4_ n5_ n6_ n7_ n8_ n9_; clear hb hbox hg; have hnb18 := NB883_874.out; have hnc18 := NB874_883.out; have hnb19 := NB883_878.out; have hnc19 := NB878_883.out; have hcz20_0 : w17.cell? ⟨gb883, 0, none⟩ = some (.int .i64 0) := (blk_cell BK883.out 0).trans rfl; have hcz20_1 : w17.cell? ⟨gb883, 1, none⟩ = some (.int .i64 0) := (blk_cell BK883.out 1).trans rfl; have hfz20_0 := blk_frozen BK883.out 0; have hfz20_1 := blk_frozen BK883.out 1) | ((with_reducible refine gate_callee (f := 86) rfl ?_); refine goesL_ (some 16) rfl rfl Try.func86 (by kernel_rfl) rfl #[.pointer (some ⟨g878, 0, none⟩), .int .i64 8] rfl zf50_4 ?_; (with_reducible refine (spec_l07AnyPieces.calls k g878 t875 t881 t882 8 t884 t887 t888 w _ ?side1 ?side2 A4.out).mono ?_); (case side1 => repeat (first | (with_reducible first | exact HI878.out | apply IsS109.alloc | apply IsS109.drewN | apply IsS109.drew | apply IsS109.set_1 | apply IsS109.set_2 | refine IsS109.far ?_ NB878_874.out _ | refine IsS109.far ?_ NB878_883.out _) | exact HI878.out)); (case side2 => repeat (first | (with_reducible first | exact HB.out | apply below_alloc | apply pw_below_drewN | apply below_drew1 | refine below_set ?_ (IsS109.ge HI878.out) | refine below_set ?_ GE874.out | refine below_set ?_ GE883.out) | exact HB.out)); rintro e w21 ⟨v885, rfl, ho0, hi, hb, hk⟩; refine ⟨_, rfl, ?_⟩; have n0_ := Aside0.mk (KeepBut.blk hk (g' := gb874) (o := .cells #[.int .i64 0, .int .i64 0] 49 (0, 0)) zf50_13 NB874_878.out (by simp)); have n1_ := Aside0.mk (KeepBut.blk hk (g' := gb883) (o := .cells #[.int .i64 t879, .int .i64 t880] 49 (0, 0)) zf50_10 NB883_878.out (by simp)); have n2_ := Aside0.mk (Kd.R_lower (Kd.R_newM (M := fun k_ => (w.heap.size ≤ k_)) ho0 (below_size zf50_0) (fun k_ h_ => h_)) (below_size zf50_0)); have n3_ := Aside0.mk (hb); have n4_ := Aside0.mk (hi); clear BK874; clear BK883; clear HB; clear HI878; have BK874 := n0_; have BK883 := n1_; have HO886 := n2_; have HB := n3_; have HI878 := n4_; clear n0_ n1_ n2_ n3_ n4_; (try clear hb); (try clear hb2); (try clear hk); (try clear hi); (try clear ho0); have hcz22_0 : w21.cell? ⟨gb883, 0, none⟩ = some (.int .i64 t879) := (blk_cell BK883.out 0).trans rfl; have hcz22_1 : w21.cell? ⟨gb883, 1, none⟩ = some (.int .i64 t880) := (blk_cell BK883.out 1).trans rfl; have hfz22_0 := blk_frozen BK883.out 0; have hfz22_1 := blk_frozen BK883.out 1; obtain ⟨Ao23, co23, eo23⟩ := Kd.R_slice HO886.out; subst eo23) | ((with_reducible refine gate_callee (f := 44) rfl ?_); refine goesL_ (some 19) rfl rfl Try.func44 (by kernel_rfl) rfl #[.agg #[.int .i64 t879, .int .i64 t880], .slice Ao23 t884.length co23] rfl zf50_4 ?_; (with_reducible refine (spec_FirstFit.calls k t879 t880 _ _ t884 t889 _ ?side1 ?side2 A5.out).mono ?_); (case side1 => repeat (first | exact (Kd.R_reads' HO886.out).2.2 | (with_reducible refine Kd.C_alloc ?_ _) | (with_reducible refine Kd.C_drewN ?_ _) | (with_reducible refine Kd.C_drew ?_))); (case side2 => exact (Kd.R_reads' HO886.out).2.1); rintro e w24 ⟨v890, rfl, ho0, hb⟩; refine ⟨_, rfl, ?_⟩; have n0_ := Aside0.mk (Kd.R_below zf50_6 hb); have n1_ := Aside0.mk (Kd.N_lower (Kd.N_mono (ok' := fun k_ => (w.heap.size ≤ k_) ∧ some k_ ≠ (.slice Ao23 t884.length co23 : Value).ownBlock ∧ k_ ≠ gb874 ∧ k_ ≠ gb883 ∧ k_ ≠ g878) ho0 (fun k_ hk_ => ⟨(Nat.le_trans (below_size zf50_0) hk_), (Kd.fresh' (Kd.R_lt zf50_6) k_ hk_), (Kd.freshB (g := gb874) (o := .cells #[.int .i64 0, .int .i64 0] 49 (0, 0)) zf50_2 k_ hk_), (Kd.freshB (g := gb883) (o := .cells #[.int .i64 t879, .int .i64 t880] 49 (0, 0)) zf50_5 k_ hk_), (IsS109.fresh zf50_3 k_ hk_)⟩)) (below_size zf50_0)); have n2_ := Aside0.mk (blk_below (g := gb874) (o := .cells #[.int .i64 0, .int .i64 0] 49 (0, 0)) zf50_2 hb); have n3_ := Aside0.mk (IsS109.below zf50_3 hb); have n4_ := Aside0.mk (blk_below (g := gb883) (o := .cells #[.int .i64 t879, .int .i64 t880] 49 (0, 0)) zf50_5 hb); have n5_ := Aside0.mk (below_step zf50_0 hb); clear HO886; clear BK874; clear HI878; clear BK883; clear HB; have HO886 := n0_; have HO891 := n1_; have BK874 := n2_; have HI878 := n3_; have BK883 := n4_; have HB := n5_; clear n0_ n1_ n2_ n3_ n4_ n5_; (try clear hb); (try clear hb2); (try clear hk); (try clear hi); (try clear ho0); obtain ⟨Ao25, co25, eo25⟩ := Kd.N_slice HO891.out; subst eo25) | ((with_reducible refine gate_callee (f := 87) rfl ?_); refine goesL_ (some 26) rfl rfl Try.func87 (by kernel_rfl) rfl #[.pointer (some ⟨g878, 0, none⟩), .int .i64 (t889.length : Int)] rfl zf50_4 ?_; (with_reducible refine (spec_l01Below.calls g878 t875 t887 t888 (t889.length : Int) t892 t893 t894 w _ ?side1 ?side2 A7.out).mono ?_); (case side1 => repeat (first | (with_reducible first | exact HI878.out | apply IsS109.alloc | apply IsS109.drewN | apply IsS109.drew | apply IsS109.set_1 | apply IsS109.set_2 | refine IsS109.far ?_ NB878_874.out _ | refine IsS109.far ?_ NB878_883.out _) | exact HI878.out)); (case side2 => repeat (first | (with_reducible first | exact HB.out | apply below_alloc | apply pw_below_drewN | apply below_drew1 | refine below_set ?_ (IsS109.ge HI878.out) | refine below_set ?_ GE874.out | refine below_set ?_ GE883.out) | exact HB.out)); rintro e w26 ⟨rfl, hi, hb, hk⟩; refine ⟨_, rfl, ?_⟩; have n0_ := Aside0.mk (KeepBut.blk hk (g' := gb874) (o := .cells #[.int .i64 0, .int .i64 0] 49 (0, 0)) zf50_2 NB874_878.out (by simp)); have n1_ := Aside0.mk (KeepBut.blk hk (g' := gb883) (o := .cells #[.int .i64 t879, .int .i64 t880] 49 (0, 0)) zf50_5 NB883_878.out (by simp)); have n2_ := Aside0.mk (Kd.R_mono (Kd.R_keep (IsS109.apart (show IsS109 w _ g878 t875 t887 t888 from by repeat (first | (with_reducible first | exact HI878.out | apply IsS109.alloc | apply IsS109.drewN | apply IsS109.drew | apply IsS109.set_1 | apply IsS109.set_2 | refine IsS109.far ?_ NB878_874.out _ | refine IsS109.far ?_ NB878_883.out _) | exact HI878.out)) zf50_6 (by decide)) hk (fun _ h => h.2)) (fun _ h => h.1)); have n3_ := Aside0.mk (Kd.N_mono (Kd.N_keep (Kd.N_mono (ok := fun k_ => (((w.heap.size ≤ k_)) ∧ (some k_ ≠ (.slice Ao23 t884.length co23 : Value).ownBlock ∧ (k_ ≠ gb874 ∧ (k_ ≠ gb883 ∧ k_ ≠ g878))))) zf50_14 (fun k_ hk_ => (⟨hk_, hk_.2.2.2.2⟩ : _ ∧ k_ ≠ g878))) hk (fun _ h => h.2)) (fun _ h => h.1)); have n4_ := Aside0.mk (hb); have n5_ := Aside0.mk (hi); clear BK874; clear BK883; clear HO886; clear HO891; clear HB; clear HI878; have BK874 := n0_; have BK883 := n1_; have HO886 := n2_; have HO891 := n3_; have HB := n4_; have HI878 := n5_; clear n0_ n1_ n2_ n3_ n4_ n5_; (try clear hb); (try clear hb2); (try clear hk); (try clear hi)) | ((with_reducible refine gate_callee (f := 87) rfl ?_); refine goesL_ (some 28) rfl rfl Try.func87 (by kernel_rfl) rfl #[.pointer (some ⟨g878, 0, none⟩), .int .i64 8] rfl zf50_4 ?_; (with_reducible refine (spec_l01Below.calls g878 t875 t893 t894 8 t895 t896 t897 w _ ?side1 ?side2 A8.out).mono ?_); (case side1 => repeat (first | (with_reducible first | exact HI878.out | apply IsS109.alloc | apply IsS109.drewN | apply IsS109.drew | apply IsS109.set_1 | apply IsS109.set_2 | refine IsS109.far ?_ NB878_874.out _ | refine IsS109.far ?_ NB878_883.out _) | exact HI878.out)); (case side2 => repeat (first | (with_reducible first | exact HB.out | apply below_alloc | apply pw_below_drewN | apply below_drew1 | refine below_set ?_ (IsS109.ge HI878.out) | refine below_set ?_ GE874.out | refine below_set ?_ GE883.out) | exact HB.out)); rintro e w27 ⟨rfl, hi, hb, hk⟩; refine ⟨_, rfl, ?_⟩; have n0_ := Aside0.mk (KeepBut.blk hk (g' := gb874) (o := .cells #[.int .i64 0, .int .i64 0] 49 (0, 0)) zf50_2 NB874_878.out (by simp)); have n1_ := Aside0.mk (KeepBut.blk hk (g' := gb883) (o := .cells #[.int .i64 t879, .int .i64 t880] 49 (0, 0)) zf50_5 NB883_878.out (by simp)); have n2_ := Aside0.mk (Kd.R_mono (Kd.R_keep (IsS109.apart (show IsS109 w _ g878 t875 t893 t894 from by repeat (first | (with_reducible first | exact HI878.out | apply IsS109.alloc | apply IsS109.drewN | apply IsS109.drew | apply IsS109.set_1 | apply IsS109.set_2 | refine IsS109.far ?_ NB878_874.out _ | refine IsS109.far ?_ NB878_883.out _) | exact HI878.out)) zf50_6 (by decide)) hk (fun _ h => h.2)) (fun _ h => h.1)); have n3_ := Aside0.mk (Kd.N_mono (Kd.N_keep (Kd.N_mono (ok := fun k_ => (((w.heap.size ≤ k_)) ∧ (some k_ ≠ (.slice Ao23 t884.length co23 : Value).ownBlock ∧ (k_ ≠ gb874 ∧ (k_ ≠ gb883 ∧ k_ ≠ g878))))) zf50_14 (fun k_ hk_ => (⟨hk_, hk_.2.2.2.2⟩ : _ ∧ k_ ≠ g878))) hk (fun _ h => h.2)) (fun _ h => h.1)); have n4_ := Aside0.mk (hb); have n5_ := Aside0.mk (hi); clear BK874; clear BK883; clear HO886; clear HO891; clear HB; clear HI878; have BK874 := n0_; have BK883 := n1_; have HO886 := n2_; have HO891 := n3_; have HB := n4_; have HI878 := n5_; clear n0_ n1_ n2_ n3_ n4_ n5_; (try clear hb); (try clear hb2); (try clear hk); (try clear hi)))
     have n0_ := Aside0.mk (Kd.R_drew HO886.out)
     have n1_ := Aside0.mk (Kd.N_drew HO891.out)
     have n2_ := Aside0.mk (blk_drew BK874.out)
     have n3_ := Aside0.mk (blk_drew BK883.out)
     have n4_ := Aside0.mk (IsS109.drew HI878.out)
     have n5_ := Aside0.mk (below_drew1 HB.out)
     clear HO886
     clear HO891
     clear BK874
     clear BK883
     clear HI878
     clear HB
     have HO886 := n0_
     have HO891 := n1_
     have BK874 := n2_
     have BK883 := n3_
     have HI878 := n4_
     have HB := n5_
     clear n0_ n1_ n2_ n3_ n4_ n5_
     have p898 : 0 ≤ (t892 : Int) := of_decide_eq_true zf50_17
     have q898 : t892 < (t889.length : Int) := of_decide_eq_true zf50_17
     obtain ⟨ad898, A898_2, c898_2, e898, hx898_0, hx898_1, hx898_2, hl898_2, hi898_2⟩ := at_T62 (Kd.N_reads' HO891.out).2.2 t892 p898 q898
     cases e898
     obtain ⟨ce898, hce898, hMe898, hcc898⟩ := Kd.N_get HO891.out z62 t892 p898 (by first | exact q898 | exact of_decide_eq_true zf50_17 | (have e_ := (Kd.N_reads' HO891.out).1; omega))
     obtain ⟨ua898_2, uc898_2, rfl, ul898_2, ge898_2⟩ := k62_openF hMe898
     have hv898_2 := hcc898 2 _ rfl
     rw [add_field _ _ 2 (by omega)] at hv898_2
     replace hv898_2 := Option.some.inj (hv898_2.symm.trans hx898_2)
     injection hv898_2 with hva_ hvn_ hvc_
     rw [hva_] at ge898_2
     rw [hvc_] at ul898_2
     have HL898_2 := Aside0.mk (show Kd.V (Kd.int .i64) 3 _ w.heap.size _ _ ((rd_T62 t889 t892).f2) from Kd.V_mk ul898_2 ge898_2)
     clear hva_ hvn_ hvc_ ge898_2 ul898_2
     clear hcc898 hce898
     have HR898_2 := Aside0.mk hi898_2
     have HC898_2 := Aside0.mk hl898_2
     clear hi898_2 hl898_2
     replace p898 := eq_true p898
     replace q898 := eq_true q898
     refine start_ (n := 14) (S := fun w' => w'.cell? (ad898.add ((t892).toNat * 3)) = some (.int .i64 ((rd_T62 t889 t892).f0)) ∧ w'.cell? ⟨(ad898.add ((t892).toNat * 3)).block, (ad898.add ((t892).toNat * 3)).off + 1, none⟩ = some (.int .i64 ((rd_T62 t889 t892).f1)) ∧ w'.cell? ⟨(ad898.add ((t892).toNat * 3)).block, (ad898.add ((t892).toNat * 3)).off + 2, none⟩ = some (.slice A898_2 ((rd_T62 t889 t892).f2).length c898_2)) (ds := [13]) #[false, false, false, false, false, false, false, false, false, false, false, false, false, false] (by kernel_rfl) rfl rfl ⟨hx898_0, hx898_1, hx898_2⟩ (fun hHeld => ?_); refine with_tabW spec_DrawBoxesOk.tab10 spec_DrawBoxesOk.bits10 (fun HT_ HW_ => ?_)
     generalize w27.drew = w28 at HO886 HO891 BK874 BK883 HI878 HB HL898_2 HR898_2 hx898_0 hx898_1 hx898_2 hHeld ⊢
     refine pS 0 31 ?_
     refine pS 1 32 ?_
     refine pS 2 33 ?_
     refine pS 3 34 ?_
     refine pS 4 35 ?_
     refine pS 5 36 ?_
     refine pS 7 38 ?_
     refine tS 6 37 ?_
     refine one_ (i := 8) (N := some 39) #[true, true, true, true, true, true, true, true, true, false, false, false, false, false] rfl rfl (one_of HT_.out (by kernel_rfl)) (by decide) (fun K hK => ?_)
     refine Kd.R_lit_step (Kd.int .i64) _ 3 ?hg (N := 39) ?hd (xs := ([(-1), 1] : List Int)) (inner := [.int .i64 (-1), .int .i64 1]) (ok := fun _ => True) (okp := fun _ => True) ?hr ?hp (fun _ hk => hk) trivial (Below.refl _ _) (Nat.le_refl _) (by simp) ?_; (case hd => rfl); (case hg => rfl); (case hr => first | (go_simp; done) | (go_simp; rfl)); (case hp => exact (Reps.one (show Kd.M (Kd.int .i64) _ _ _ (-1) [.int .i64 (-1)] from rfl) (Reps.one (show Kd.M (Kd.int .i64) _ _ _ 1 [.int .i64 1] from rfl) (Reps.none _ _))))
     intro v900 w29 ho30 hb hg_ hnew_
     have HS0_ := (hb.cell (World.block_lt_of_cell? _ _ (hHeld.1))).trans (hHeld.1)
     have HS1_ := (hb.cell (World.block_lt_of_cell? _ _ (hHeld.2.1))).trans (hHeld.2.1)
     have HS2_ := (hb.cell (World.block_lt_of_cell? _ _ (hHeld.2.2))).trans (hHeld.2.2)
     clear hg_ hnew_
     (first | rw [← Ny899.out] at ho30 | (simp only [Int.reduceToNat] at ho30; rw [← Ny899.out] at ho30))
     have n0_ := Aside0.mk (Kd.R_below zf50_6 hb)
     have n1_ := Aside0.mk (Kd.N_elder' zf50_14 (Kd.R_base ho30) hb)
     have n2_ := Aside0.mk (Kd.V_elder' (by (with_reducible repeat (first | apply Kd.V_alloc | apply Kd.V_drewN | apply Kd.V_drew)); exact HL898_2.out) (Kd.R_base ho30) hb)
     have n3_ := Aside0.mk (Kd.R_lower (Kd.R_newM (M := fun k_ => (w.heap.size ≤ k_)) ho30 (below_size zf50_0) (fun k_ h_ => h_)) (below_size zf50_0))
     have n4_ := Aside0.mk (blk_below (g := gb874) (o := .cells #[.int .i64 0, .int .i64 0] 49 (0, 0)) zf50_2 hb)
     have n5_ := Aside0.mk (IsS109.below zf50_3 hb)
     have n6_ := Aside0.mk (blk_below (g := gb883) (o := .cells #[.int .i64 t879, .int .i64 t880] 49 (0, 0)) zf50_5 hb)
     have n7_ := Aside0.mk (Kd.C_below (by repeat (first | (with_reducible exact HR898_2.out) | (with_reducible refine Kd.C_alloc ?_ _) | (with_reducible refine Kd.C_drewN ?_ _) | (with_reducible refine Kd.C_drew ?_) | exact HR898_2.out)) hb)
     have n8_ := Aside0.mk (below_step zf50_0 hb)
     clear HO886
     clear HO891
     clear HL898_2
     clear BK874
     clear HI878
     clear BK883
     clear HR898_2
     clear HB
     have HO886 := n0_
     have HO891 := n1_
     have HL898_2 := n2_
     have HO901 := n3_
     have BK874 := n4_
     have HI878 := n5_
     have BK883 := n6_
     have HR898_2 := n7_
     have HB := n8_
     clear n0_ n1_ n2_ n3_ n4_ n5_ n6_ n7_ n8_
     clear hb ho30
     obtain ⟨Ao31, co31, eo31⟩ := Kd.R_slice HO901.out
     (first | subst eo31 | (injection eo31 with f1_ f2_ f3_; have f4_ := f1_.symm; have f5_ := f3_.symm; clear f1_ f2_ f3_; subst f4_; subst f5_))
     refine hK.out _ _ ⟨HS0_, HS1_, HS2_⟩ (fun hHeld => ?_)
     clear hK K
     refine norm_ (a' := ?_) ?_ ?_
     rotate_left
     ·
      show Act.put _ (some 39) _ = _
      simp only [Act.put, List.setIfInBounds_toArray, List.set_cons_zero, List.set_cons_succ, i64_w, i32_w]
      rfl
     refine one_ (i := 9) (N := some 40) #[true, true, true, true, true, true, true, true, true, true, false, false, false, false] rfl rfl (one_of HT_.out (by kernel_rfl)) (by decide) (fun K hK => ?_)
     refine goes_ Try.func88 (by kernel_rfl) rfl #[.pointer (some ⟨g878, 0, none⟩), .slice Ao31 y899.length co31] (by rfl) rfl rfl zf50_4 ?_
     with_reducible refine (spec_l01PickInt.calls g878 t875 t896 t897 _ _ y899 t902 t903 t904 w _ ?side1 ?side2 ?side3 ?side4 ?side5 A12.out).mono ?_
     (case side1 => repeat (first | (with_reducible first | exact HI878.out | apply IsS109.alloc | apply IsS109.drewN | apply IsS109.drew | apply IsS109.set_1 | apply IsS109.set_2 | refine IsS109.far ?_ NB878_874.out _ | refine IsS109.far ?_ NB878_883.out _) | exact HI878.out))
     (case side2 => repeat (first | (with_reducible first | exact HB.out | apply below_alloc | apply pw_below_drewN | apply below_drew1 | refine below_set ?_ (IsS109.ge HI878.out) | refine below_set ?_ GE874.out | refine below_set ?_ GE883.out) | exact HB.out))
     (case side3 => repeat (first | exact (Kd.R_reads' HO901.out).2.2 | (with_reducible refine Kd.C_alloc ?_ _) | (with_reducible refine Kd.C_drewN ?_ _) | (with_reducible refine Kd.C_drew ?_)))
     (case side4 => exact (Kd.R_reads' HO901.out).2.1)
     (case side5 => exact far_slice (IsS109.own_ne HI878.out HO901.out (by decide)))
     rintro e w32 ⟨rfl, hi, hb, hk⟩
     have HS0_ := keep_cell hk (hHeld.1) zf50_26
     have HS1_ := keep_cell hk (hHeld.2.1) zf50_26
     have HS2_ := keep_cell hk (hHeld.2.2) zf50_26
     refine ⟨_, rfl, ?_⟩
     have n0_ := Aside0.mk (KeepBut.blk hk (g' := gb874) (o := .cells #[.int .i64 0, .int .i64 0] 49 (0, 0)) zf50_2 NB874_878.out (by simp))
     have n1_ := Aside0.mk (KeepBut.blk hk (g' := gb883) (o := .cells #[.int .i64 t879, .int .i64 t880] 49 (0, 0)) zf50_5 NB883_878.out (by simp))
     have n2_ := Aside0.mk (Kd.R_mono (Kd.R_keep (IsS109.apart (show IsS109 w _ g878 t875 t896 t897 from by repeat (first | (with_reducible first | exact HI878.out | apply IsS109.alloc | apply IsS109.drewN | apply IsS109.drew | apply IsS109.set_1 | apply IsS109.set_2 | refine IsS109.far ?_ NB878_874.out _ | refine IsS109.far ?_ NB878_883.out _) | exact HI878.out)) zf50_6 (by decide)) hk (fun _ h => h.2)) (fun _ h => h.1))
     have n3_ := Aside0.mk (Kd.N_mono (Kd.N_keep (Kd.N_mono (ok := fun k_ => ((((w.heap.size ≤ k_)) ∧ (some k_ ≠ (.slice Ao23 t884.length co23 : Value).ownBlock ∧ (k_ ≠ gb874 ∧ (k_ ≠ gb883 ∧ k_ ≠ g878)))) ∧ some k_ ≠ (.slice Ao31 y899.length co31 : Value).ownBlock)) zf50_14 (fun k_ hk_ => (⟨hk_, hk_.1.2.2.2.2⟩ : _ ∧ k_ ≠ g878))) hk (fun _ h => h.2)) (fun _ h => h.1))
     have n4_ := Aside0.mk (Kd.V_mono (Kd.V_keep (Kd.V_mono (ok := fun k_ => (((((w.heap.size ≤ k_)) ∧ (some k_ ≠ (.slice Ao23 t884.length co23 : Value).ownBlock ∧ (k_ ≠ gb874 ∧ (k_ ≠ gb883 ∧ k_ ≠ g878)))) ∧ some k_ ≠ (.slice (some ad898) t889.length co25 : Value).ownBlock) ∧ some k_ ≠ (.slice Ao31 y899.length co31 : Value).ownBlock)) (by (with_reducible repeat (first | apply Kd.V_alloc | apply Kd.V_drewN | apply Kd.V_drew)); exact HL898_2.out) (fun k_ hk_ => (⟨hk_, hk_.1.1.2.2.2.2⟩ : _ ∧ k_ ≠ g878))) hk (fun _ h => h.2)) (fun _ h => h.1))
     have n5_ := Aside0.mk (Kd.R_mono (Kd.R_keep (IsS109.apart (show IsS109 w _ g878 t875 t896 t897 from by repeat (first | (with_reducible first | exact HI878.out | apply IsS109.alloc | apply IsS109.drewN | apply IsS109.drew | apply IsS109.set_1 | apply IsS109.set_2 | refine IsS109.far ?_ NB878_874.out _ | refine IsS109.far ?_ NB878_883.out _) | exact HI878.out)) (by (with_reducible repeat (first | apply Kd.R_alloc | apply Kd.R_drewN | apply Kd.R_drew)); exact HO901.out) (by decide)) hk (fun _ h => h.2)) (fun _ h => h.1))
     have n6_ := Aside0.mk (hb)
     have n7_ := Aside0.mk (hi)
     clear BK874
     clear BK883
     clear HO886
     clear HO891
     clear HL898_2
     clear HO901
     clear HB
     clear HI878
     have BK874 := n0_
     have BK883 := n1_
     have HO886 := n2_
     have HO891 := n3_
     have HL898_2 := n4_
     have HO901 := n5_
     have HB := n6_
     have HI878 := n7_
     clear n0_ n1_ n2_ n3_ n4_ n5_ n6_ n7_
     (try clear hb)
     (try clear hb2)
     (try clear hk)
     (try clear hi)
     have p13 : 0 ≤ (t892 : Int) := of_decide_eq_true zf50_17
     have q13 : (t892 : Int) < ((t889.length : Int) : Int) := of_decide_eq_true zf50_17
     obtain ⟨go13, co13, eo13, gb13, gl13, cl13, HG13⟩ := Kd.N_form HO891.out (by omega)
     (first | cases eo13 | (injection eo13 with ea_ en_ ec_; (first | subst ea_ | (injection ea_ with ea_; subst ea_)); subst ec_; clear en_))
     have GB13 := Aside0.mk gb13
     have GG13 := Aside0.mk HG13
     clear gb13 gl13 HG13
     (first | simp only [add_plain] at hx898_0 | skip)
     (first | simp only [add_plain] at hx898_1 | skip)
     (first | simp only [add_plain] at hx898_2 | skip)
     obtain ⟨ce13, hcl13, hM13, hcc13, hfr13⟩ := Kd.N_elem HO891.out z62 (t892 : Int) p13 q13
     obtain ⟨ua13_2, uc13_2, rfl, ul13_2, ge13_2⟩ := k62_openF hM13
     have hx13_0 : World.cell? _ ⟨go13, (t892 : Int).toNat * 3, none⟩ = some (.int .i64 ((rd_T62 t889 t892).f0)) := hcc13 0 _ rfl
     have hx13_1 : World.cell? _ ⟨go13, (t892 : Int).toNat * 3 + 1, none⟩ = some (.int .i64 ((rd_T62 t889 t892).f1)) := hcc13 1 _ rfl
     have hx13_2 : World.cell? _ ⟨go13, (t892 : Int).toNat * 3 + 2, none⟩ = some (.slice ua13_2 ((rd_T62 t889 t892).f2).length uc13_2) := hcc13 2 _ rfl
     have hf13_0 : World.frozen? _ ⟨go13, (t892 : Int).toNat * 3, none⟩ = false := hfr13 0
     have hf13_1 : World.frozen? _ ⟨go13, (t892 : Int).toNat * 3 + 1, none⟩ = false := hfr13 1
     have hf13_2 : World.frozen? _ ⟨go13, (t892 : Int).toNat * 3 + 2, none⟩ = false := hfr13 2
     clear hcl13 hcc13 hfr13 hM13
     replace p13 := eq_true p13
     replace q13 := eq_true q13
     have HN878_go13 := Aside0.mk (show g878 ≠ go13 from by have h_ := IsS109.own_neN HI878.out HO891.out (by decide); intro e_; exact h_ (by rw [e_]; rfl))
     have HX33 := Aside0.mk (show Kd.N k62 62 _ w.heap.size (fun k_ => (w.heap.size ≤ k_) ∧ some k_ ≠ (.slice Ao23 t884.length co23 : Value).ownBlock ∧ some k_ ≠ (.slice Ao31 y899.length co31 : Value).ownBlock ∧ k_ ≠ gb874 ∧ k_ ≠ gb883 ∧ k_ ≠ g878) (.slice (some ⟨go13, 0, none⟩) t889.length co25) t889 from (Kd.N_mono (HO891.out) (fun k_ hk => ⟨hk.1.1, ⟨hk.1.2.1, ⟨hk.2, ⟨hk.1.2.2.1, ⟨hk.1.2.2.2.1, hk.1.2.2.2.2⟩⟩⟩⟩⟩)))
     obtain ⟨ce33, hcl33, hM33, hcc33, hfr33⟩ := Kd.N_elem HX33.out z62 (t892 : Int) (of_decide_eq_true zf50_17) zf50_20
     obtain ⟨ua33_2, uc33_2, rfl, ul33_2, ge33_2⟩ := k62_openF hM33
     have HP33 := (Kd.N_seg HX33.out (t892 : Int) (of_decide_eq_true zf50_17) zf50_20 (seg := [.int .i64 (wrap64 (((rd_T62 t889 t892).f1) + t902))]) (j := 1) hcl33 hcc33 (show 2 ≤ 3 from by decide) (x' := (⟨(rd_T62 t889 t892).f0, wrap64 (((rd_T62 t889 t892).f1) + t902), (rd_T62 t889 t892).f2⟩ : S62)) (k62_mkF _ _ (⟨(rd_T62 t889 t892).f0, wrap64 (((rd_T62 t889 t892).f1) + t902), (rd_T62 t889 t892).f2⟩ : S62) ul33_2 ge33_2) (fun _ hk => hk)).1
     rw [← Ny905.out] at HP33
     have HQ33 := Aside0.mk HP33
     clear hcl33 hcc33 hfr33 hM33 HP33
     refine hK.out _ _ ⟨HS0_, HS1_, HS2_⟩ (fun hHeld => ?_)
     clear hK K
     refine norm_ (a' := ?_) ?_ ?_
     rotate_left
     ·
      show Act.put _ (some 40) _ = _
      simp only [Act.put, List.setIfInBounds_toArray, List.set_cons_zero, List.set_cons_succ, i64_w, i32_w]
      rfl
     refine pS 10 41 ?_
     refine pS 11 42 ?_
     refine pS 12 43 ?_
     refine last_ (i := 13) (N := none) #[true, true, true, true, true, true, true, true, true, true, true, true, true, true] rfl rfl (one_of HT_.out (by kernel_rfl)) (by decide) (fun K hK => ?_)
     refine skip_ (w1 := ?_) (by rfl) rfl ?_ ?_
     rotate_left
     ·
      go_simp
      rfl
     refine hK.out _ _ ?_
     clear hK K
     refine done_ (done_of HT_.out (by kernel_rfl)) ?_
     have n0_ : Aside0 (Kd.R k80 80 (w32.setCell ⟨go13, (t892 : Int).toNat * 3 + 1, none⟩ (.int .i64 (wrap64 (((rd_T62 t889 t892).f1) + t902)))) w.heap.size (fun k_ => (w.heap.size ≤ k_)) (.slice Ao23 t884.length co23) t884) := ⟨by (with_reducible repeat (first | apply Kd.R_alloc | apply Kd.R_drewN | apply Kd.R_drew)); exact Kd.R_mono (Kd.R_far (p := ⟨go13, (t892 : Int).toNat * 3 + 1, none⟩) (Kd.R_types HO886.out GG13.out (by decide)) (fun _ hk => hk.2) (.int .i64 (wrap64 (((rd_T62 t889 t892).f1) + t902)))) (fun _ hk => hk.1.1)⟩
     have n1_ : Aside0 (Kd.N k62 62 (w32.setCell ⟨go13, (t892 : Int).toNat * 3 + 1, none⟩ (.int .i64 (wrap64 (((rd_T62 t889 t892).f1) + t902)))) w.heap.size (fun k_ => (w.heap.size ≤ k_) ∧ some k_ ≠ (.slice Ao23 t884.length co23 : Value).ownBlock ∧ some k_ ≠ (.slice Ao31 y899.length co31 : Value).ownBlock ∧ k_ ≠ gb874 ∧ k_ ≠ gb883 ∧ k_ ≠ g878) (.slice (some ⟨go13, 0, none⟩) t889.length co25) y905) := ⟨by (with_reducible repeat (first | apply Kd.N_alloc | apply Kd.N_drewN | apply Kd.N_drew)); exact HQ33.out⟩
     have n2_ : Aside0 (Kd.V (Kd.int .i64) 3 (w32.setCell ⟨go13, (t892 : Int).toNat * 3 + 1, none⟩ (.int .i64 (wrap64 (((rd_T62 t889 t892).f1) + t902)))) w.heap.size (fun k_ => (w.heap.size ≤ k_) ∧ some k_ ≠ (.slice Ao23 t884.length co23 : Value).ownBlock ∧ some k_ ≠ (.slice (some ⟨go13, 0, none⟩) t889.length co25 : Value).ownBlock ∧ some k_ ≠ (.slice Ao31 y899.length co31 : Value).ownBlock ∧ k_ ≠ gb874 ∧ k_ ≠ gb883 ∧ k_ ≠ g878) (.slice A898_2 ((rd_T62 t889 t892).f2).length c898_2) ((rd_T62 t889 t892).f2)) := ⟨by (with_reducible repeat (first | apply Kd.V_alloc | apply Kd.V_drewN | apply Kd.V_drew)); exact Kd.V_mono (Kd.V_far (p := ⟨go13, (t892 : Int).toNat * 3 + 1, none⟩) (Kd.V_mono HL898_2.out (fun k_ hk => (⟨hk, fun e_ => hk.1.2 (by rw [e_]; rfl)⟩ : _ ∧ k_ ≠ go13))) (fun _ hk => hk.2) (.int .i64 (wrap64 (((rd_T62 t889 t892).f1) + t902)))) (fun _ hk => ⟨hk.1.1.1.1, ⟨hk.1.1.1.2.1, ⟨hk.1.1.2, ⟨hk.1.2, ⟨hk.1.1.1.2.2.1, ⟨hk.1.1.1.2.2.2.1, hk.1.1.1.2.2.2.2⟩⟩⟩⟩⟩⟩)⟩
     have n3_ : Aside0 (Kd.R (Kd.int .i64) 3 (w32.setCell ⟨go13, (t892 : Int).toNat * 3 + 1, none⟩ (.int .i64 (wrap64 (((rd_T62 t889 t892).f1) + t902)))) w.heap.size (fun k_ => (w.heap.size ≤ k_)) (.slice Ao31 y899.length co31) y899) := ⟨by (with_reducible repeat (first | apply Kd.R_alloc | apply Kd.R_drewN | apply Kd.R_drew)); exact Kd.R_mono (Kd.R_far (p := ⟨go13, (t892 : Int).toNat * 3 + 1, none⟩) (Kd.R_types HO901.out GG13.out (by decide)) (fun _ hk => hk.2) (.int .i64 (wrap64 (((rd_T62 t889 t892).f1) + t902)))) (fun _ hk => hk.1.1)⟩
     have n4_ : Aside0 ((w32.setCell ⟨go13, (t892 : Int).toNat * 3 + 1, none⟩ (.int .i64 (wrap64 (((rd_T62 t889 t892).f1) + t902)))).heap[gb874]? = some (.cells #[.int .i64 0, .int .i64 0] 49 (0, 0))) := ⟨by (with_reducible repeat (first | refine blk_drewN ?_ _ | refine blk_drew ?_ | refine blk_alloc ?_ _)); refine blk_far ?_ (by have h_ := Kd.N_away (g := gb874) HO891.out (fun _ hk => by first | with_reducible exact hk.1.2.2.1 | with_reducible exact hk.1.2 | with_reducible exact hk.1.2.1 | with_reducible exact hk.1.2.2 | with_reducible exact hk.1.2.2.1 | with_reducible exact hk.1.2.2.2 | with_reducible exact hk.1.2.2.2.1 | with_reducible exact hk.1.2.2.2.2 | with_reducible exact hk.1.2.2.2.2.1 | with_reducible exact hk.1.2.2.2.2.2 | with_reducible exact hk.1.2.2.2.2.2.1 | with_reducible exact hk.1.2.2.2.2.2.2 | with_reducible exact hk.1.2.2.2.2.2.2.1 | with_reducible exact hk.1.2.2.2.2.2.2.2 | with_reducible exact hk.1.2.2.2.2.2.2.2.1 | with_reducible exact hk.1.2.2.2.2.2.2.2.2 | with_reducible exact hk.1.2.2.2.2.2.2.2.2.1); intro e_; exact h_ (by rw [e_]; rfl)) _; (with_reducible repeat (first | refine blk_drewN ?_ _ | refine blk_drew ?_ | refine blk_alloc ?_ _)); exact BK874.out⟩
     have n5_ : Aside0 ((w32.setCell ⟨go13, (t892 : Int).toNat * 3 + 1, none⟩ (.int .i64 (wrap64 (((rd_T62 t889 t892).f1) + t902)))).heap[gb883]? = some (.cells #[.int .i64 t879, .int .i64 t880] 49 (0, 0))) := ⟨by (with_reducible repeat (first | refine blk_drewN ?_ _ | refine blk_drew ?_ | refine blk_alloc ?_ _)); refine blk_far ?_ (by have h_ := Kd.N_away (g := gb883) HO891.out (fun _ hk => by first | with_reducible exact hk.1.2.2.2.1 | with_reducible exact hk.1.2 | with_reducible exact hk.1.2.1 | with_reducible exact hk.1.2.2 | with_reducible exact hk.1.2.2.1 | with_reducible exact hk.1.2.2.2 | with_reducible exact hk.1.2.2.2.1 | with_reducible exact hk.1.2.2.2.2 | with_reducible exact hk.1.2.2.2.2.1 | with_reducible exact hk.1.2.2.2.2.2 | with_reducible exact hk.1.2.2.2.2.2.1 | with_reducible exact hk.1.2.2.2.2.2.2 | with_reducible exact hk.1.2.2.2.2.2.2.1 | with_reducible exact hk.1.2.2.2.2.2.2.2 | with_reducible exact hk.1.2.2.2.2.2.2.2.1 | with_reducible exact hk.1.2.2.2.2.2.2.2.2 | with_reducible exact hk.1.2.2.2.2.2.2.2.2.1); intro e_; exact h_ (by rw [e_]; rfl)) _; (with_reducible repeat (first | refine blk_drewN ?_ _ | refine blk_drew ?_ | refine blk_alloc ?_ _)); exact BK883.out⟩
     have n6_ : Aside0 (IsS109 w (w32.setCell ⟨go13, (t892 : Int).toNat * 3 + 1, none⟩ (.int .i64 (wrap64 (((rd_T62 t889 t892).f1) + t902)))) g878 t875 t903 t904) := ⟨by repeat (first | (with_reducible first | exact HI878.out | apply IsS109.alloc | apply IsS109.drewN | apply IsS109.drew | apply IsS109.set_1 | apply IsS109.set_2 | refine IsS109.far ?_ HN878_go13.out _ | refine IsS109.far ?_ NB878_874.out _ | refine IsS109.far ?_ NB878_883.out _) | exact HI878.out)⟩
     have n7_ : Aside0 (Below w.heap.size w (w32.setCell ⟨go13, (t892 : Int).toNat * 3 + 1, none⟩ (.int .i64 (wrap64 (((rd_T62 t889 t892).f1) + t902))))) := ⟨by repeat (first | (with_reducible first | exact HB.out | apply below_alloc | apply pw_below_drewN | apply below_drew1 | refine below_set ?_ GB13.out | refine below_set ?_ (IsS109.ge HI878.out) | refine below_set ?_ GE874.out | refine below_set ?_ GE883.out) | exact HB.out)⟩
     (try clear HO886)
     (try clear HO891)
     (try clear HL898_2)
     (try clear HO901)
     (try clear BK874)
     (try clear BK883)
     (try clear HI878)
     (try clear HB)
     generalize (w32.setCell ⟨go13, (t892 : Int).toNat * 3 + 1, none⟩ (.int .i64 (wrap64 (((rd_T62 t889 t892).f1) + t902)))) = w34 at n0_ n1_ n2_ n3_ n4_ n5_ n6_ n7_ ⊢
     have HO886 := n0_
     have HO891 := n1_
     have HL898_2 := n2_
     have HO901 := n3_
     have BK874 := n4_
     have BK883 := n5_
     have HI878 := n6_
     have HB := n7_
     clear n0_ n1_ n2_ n3_ n4_ n5_ n6_ n7_
     have hcz35_0 : w34.cell? ⟨gb883, 0, none⟩ = some (.int .i64 t879) := (blk_cell BK883.out 0).trans rfl
     have hcz35_1 : w34.cell? ⟨gb883, 1, none⟩ = some (.int .i64 t880) := (blk_cell BK883.out 1).trans rfl
     have hfz35_0 := blk_frozen BK883.out 0
     have hfz35_1 := blk_frozen BK883.out 1
     have hnb36 := NB874_878.out
     have hnc36 := NB878_874.out
     have hcz37_0 : w34.cell? ⟨gb874, 0, none⟩ = some (.int .i64 0) := (blk_cell BK874.out 0).trans rfl
     have hcz37_1 : w34.cell? ⟨gb874, 1, none⟩ = some (.int .i64 0) := (blk_cell BK874.out 1).trans rfl
     have hfz37_0 := blk_frozen BK874.out 0
     have hfz37_1 := blk_frozen BK874.out 1
     try go_wp2
     refine bodyPost_ret (results_ctt rfl _ _ gb874 49 #[.int .i64 t879, .int .i64 t880] (0, 0) _ rfl zf50_11 Try.underlying49 rfl (by kernel_rfl)) rfl ?_
     exact ⟨_, _, by first | rfl | (simp [errW_none, errW_some] <;> rfl) | (simp [*, errW_none, errW_some] <;> rfl), by (with_reducible repeat (first | apply Kd.R_alloc | apply Kd.R_drewN | apply Kd.R_drew)); exact Kd.R_mono (Kd.R_far (p := ⟨gb874, 1, none⟩) (Kd.R_far (p := ⟨gb874, 0, none⟩) (Kd.R_types HO886.out BK874.out (by decide)) (fun _ hk => hk.2) (.int .i64 t879)) (fun _ hk => hk.2) (.int .i64 t880)) (fun _ hk => hk.1), by (with_reducible repeat (first | apply Kd.N_alloc | apply Kd.N_drewN | apply Kd.N_drew)); exact Kd.N_mono (Kd.N_far (p := ⟨gb874, 1, none⟩) (Kd.N_far (p := ⟨gb874, 0, none⟩) (Kd.N_mono HO891.out (fun k_ hk => (⟨hk, hk.2.2.2.1⟩ : _ ∧ k_ ≠ gb874))) (fun _ hk => hk.2) (.int .i64 t879)) (fun _ hk => hk.2) (.int .i64 t880)) (fun _ hk => ⟨hk.1.1, hk.1.2.1⟩), by repeat (first | (with_reducible first | exact HB.out | apply below_alloc | apply pw_below_drewN | apply below_drew1 | refine below_set ?_ (IsS109.ge HI878.out) | refine below_set ?_ GE874.out | refine below_set ?_ GE883.out) | exact HB.out)⟩
    ·
     rw [if_neg c11] at H
     exact absurd H (by simp)
   ·
    rw [if_neg c10] at H
    exact absurd H (by simp)
  ·
   rw [if_neg c9] at H
   have c9b0 : (t895 == 0) = false := beq_eq_false_iff_ne.mpr c9
   have c9b1 : (t895 != 0) = true := bne_iff_ne.mpr c9
   by_cases c38 : t895 = 1
   ·
    rw [if_pos c38] at H
    have c38b0 : (t895 == 1) = true := beq_iff_eq.mpr c38
    have c38b1 : (t895 != 1) = false := bne_eq_false_iff_eq.mpr c38
    clear c38
    by_cases c39 : 0 ≤ t892
    ·
     rw [if_pos c39] at H
     have c39b0 : decide (0 ≤ t892) = true := decide_eq_true c39
     clear c39
     by_cases c40 : t892 < (t889.length : Int)
     ·
      rw [if_pos c40] at H
      have c40b0 : decide (t892 < (t889.length : Int)) = true := decide_eq_true c40
      clear c40
      obtain ⟨y907, hy907⟩ : ∃ y_ : List (S62), y_ = (t889.set (t892 : Int).toNat (⟨Int.tmod (wrap64 (((rd_T62 t889 t892).f0) + 1)) 6, (rd_T62 t889 t892).f1, (rd_T62 t889 t892).f2⟩ : S62)) := ⟨_, rfl⟩
      replace H : (some (t879, t880, t884, y907)) = some (r1, r2, r3, r4) := by first | (rw [hy907]; with_reducible exact H) | (have H2_ := (Option.bind_some _ _).symm.trans H; rw [hy907]; with_reducible exact H2_) | (have H2_ := (Option.bind_some _ _).symm.trans H; with_reducible exact H2_) | with_reducible exact H | (rw [hy907]; exact H) | exact H
      have Ny907 := Aside0.mk hy907
      clear hy907
      simp only [Option.some.injEq, Prod.mk.injEq] at H
      obtain ⟨rfl, rfl, rfl, rfl⟩ := H
      go_enter Try.func50, Try.ntmps50
      go_wp2_with (first | ((with_reducible refine gate_dst (N := 2) rfl ?_); refine box_event ?hg (N := 2) ?hd (cs := #[.int .i64 0, .int .i64 0]) (t := 49) ?hr ?_; (case hd => rfl); (case hg => rfl); (case hr => first | (go_simp; done) | (go_simp; rfl)); intro gb874 hg w42 hbox hb; have n0_ := Aside0.mk (below_step zf50_12 hb); have n1_ := Aside0.mk (hbox); have n2_ := Aside0.mk ((zf50_27 : w.heap.size ≤ gb874)); have n3_ := Aside0.mk ((zf50_27 : w.heap.size ≤ gb874)); clear HB; have HB := n0_; have BK874 := n1_; have GW874 := n2_; have GE874 := n3_; clear n0_ n1_ n2_ n3_; clear hb hbox hg) | ((with_reducible refine gate_callee (f := 66) rfl ?_); refine goesL_ (some 12) rfl rfl Try.func66 (by kernel_rfl) rfl #[.slice A0 l0.length c0] rfl zf50_4 ?_; (with_reducible refine (spec_l01New.calls k _ _ l0 t875 t876 t877 w _ ?side1 ?side2 ?side3 A2.out).mono ?_); (case side1 => repeat (first | (with_reducible first | exact HB.out | apply below_alloc | apply pw_below_drewN | apply below_drew1 | refine below_set ?_ GE874.out) | exact HB.out)); (case side2 => exact HR0.out); (case side3 => exact HC0.out); rintro e w43 ⟨g878, rfl, hi, hb, hb2⟩; refine ⟨_, rfl, ?_⟩; have n0_ := Aside0.mk (blk_below (g := gb874) (o := .cells #[.int .i64 0, .int .i64 0] 49 (0, 0)) zf50_2 hb2); have n1_ := Aside0.mk (hb); have n2_ := Aside0.mk (hi); have n3_ := Aside0.mk (IsS109.ne_blk hi (blk_below (g := gb874) (o := .cells #[.int .i64 0, .int .i64 0] 49 (0, 0)) zf50_2 hb2) (by decide)); have n4_ := Aside0.mk (Ne.symm (IsS109.ne_blk hi (blk_below (g := gb874) (o := .cells #[.int .i64 0, .int .i64 0] 49 (0, 0)) zf50_2 hb2) (by decide))); clear BK874; clear HB; have BK874 := n0_; have HB := n1_; have HI878 := n2_; have NB878_874 := n3_; have NB874_878 := n4_; clear n0_ n1_ n2_ n3_ n4_; (try clear hb); (try clear hb2); (try clear hk); (try clear hi)) | ((with_reducible refine gate_callee (f := 85) rfl ?_); refine goesL_ (some 14) rfl rfl Try.func85 (by kernel_rfl) rfl #[.pointer (some ⟨g878, 0, none⟩)] rfl zf50_4 ?_; (with_reducible refine (spec_l07AnyLimits.calls g878 t875 t876 t877 t879 t880 t881 t882 w _ ?side1 ?side2 A3.out).mono ?_); (case side1 => repeat (first | (with_reducible first | exact HI878.out | apply IsS109.alloc | apply IsS109.drewN | apply IsS109.drew | apply IsS109.set_1 | apply IsS109.set_2 | refine IsS109.far ?_ NB878_874.out _) | exact HI878.out)); (case side2 => repeat (first | (with_reducible first | exact HB.out | apply below_alloc | apply pw_below_drewN | apply below_drew1 | refine below_set ?_ (IsS109.ge HI878.out) | refine below_set ?_ GE874.out) | exact HB.out)); rintro e w44 ⟨rfl, hi, hb, hk⟩; refine ⟨_, rfl, ?_⟩; have n0_ := Aside0.mk (KeepBut.blk hk (g' := gb874) (o := .cells #[.int .i64 0, .int .i64 0] 49 (0, 0)) zf50_2 NB874_878.out (by simp)); have n1_ := Aside0.mk (hb); have n2_ := Aside0.mk (hi); clear BK874; clear HB; clear HI878; have BK874 := n0_; have HB := n1_; have HI878 := n2_; clear n0_ n1_ n2_; (try clear hb); (try clear hb2); (try clear hk); (try clear hi)) | ((with_reducible refine gate_dst (N := 6) rfl ?_); refine box_event ?hg (N := 6) ?hd (cs := #[.int .i64 0, .int .i64 0]) (t := 49) ?hr ?_; (case hd => rfl); (case hg => rfl); (case hr => first | (go_simp; done) | (go_simp; rfl)); intro gb883 hg w45 hbox hb; have n0_ := Aside0.mk (blk_below (g := gb874) (o := .cells #[.int .i64 0, .int .i64 0] 49 (0, 0)) zf50_2 hb); have n1_ := Aside0.mk (IsS109.below zf50_18 hb); have n2_ := Aside0.mk (below_step zf50_7 hb); have n3_ := Aside0.mk (hbox); have n4_ := Aside0.mk ((by rw [hg]; exact (below_size zf50_7) : w.heap.size ≤ gb883)); have n5_ := Aside0.mk ((by rw [hg]; exact (below_size zf50_7) : w.heap.size ≤ gb883)); have n6_ := Aside0.mk ((zf50_22 : gb874 ≠ gb883)); have n7_ := Aside0.mk ((zf50_23 : gb883 ≠ gb874)); have n8_ := Aside0.mk ((zf50_15 : g878 ≠ gb883)); have n9_ := Aside0.mk ((zf50_16 : gb883 ≠ g878)); clear BK874; clear HI878; clear HB; have BK874 := n0_; have HI878 := n1_; have HB := n2_; have BK883 := n3_; have GW883 := n4_; have GE883 := n5_; have NB874_883 := n6_; have NB883_874 := n7_; have NB878_883 := n8_; have NB883_878 := n9_; clear n0_ n1_ n2_ n3_ n4_ n5_ n6_ n7_ n8_ n9_; clear hb hbox hg; have hnb46 := NB883_874.out; have hnc46 := NB874_883.out; have hnb47 := NB883_878.out; have hnc47 := NB878_883.out; have hcz48_0 : w45.cell? ⟨gb883, 0, none⟩ = some (.int .i64 0) := (blk_cell BK883.out 0).trans rfl; have hcz48_1 : w45.cell? ⟨gb883, 1, none⟩ = some (.int .i64 0) := (blk_cell BK883.out 1).trans rfl; have hfz48_0 := blk_frozen BK883.out 0; have hfz48_1 := blk_frozen BK883.out 1) | ((with_reducible refine gate_callee (f := 86) rfl ?_); refine goesL_ (some 16) rfl rfl Try.func86 (by kernel_rfl) rfl #[.pointer (some ⟨g878, 0, none⟩), .int .i64 8] rfl zf50_4 ?_; (with_reducible refine (spec_l07AnyPieces.calls k g878 t875 t881 t882 8 t884 t887 t888 w _ ?side1 ?side2 A4.out).mono ?_); (case side1 => repeat (first | (with_reducible first | exact HI878.out | apply IsS109.alloc | apply IsS109.drewN | apply IsS109.drew | apply IsS109.set_1 | apply IsS109.set_2 | refine IsS109.far ?_ NB878_874.out _ | refine IsS109.far ?_ NB878_883.out _) | exact HI878.out)); (case side2 => repeat (first | (with_reducible first | exact HB.out | apply below_alloc | apply pw_below_drewN | apply below_drew1 | refine below_set ?_ (IsS109.ge HI878.out) | refine below_set ?_ GE874.out | refine below_set ?_ GE883.out) | exact HB.out)); rintro e w49 ⟨v885, rfl, ho0, hi, hb, hk⟩; refine ⟨_, rfl, ?_⟩; have n0_ := Aside0.mk (KeepBut.blk hk (g' := gb874) (o := .cells #[.int .i64 0, .int .i64 0] 49 (0, 0)) zf50_13 NB874_878.out (by simp)); have n1_ := Aside0.mk (KeepBut.blk hk (g' := gb883) (o := .cells #[.int .i64 t879, .int .i64 t880] 49 (0, 0)) zf50_10 NB883_878.out (by simp)); have n2_ := Aside0.mk (Kd.R_lower (Kd.R_newM (M := fun k_ => (w.heap.size ≤ k_)) ho0 (below_size zf50_0) (fun k_ h_ => h_)) (below_size zf50_0)); have n3_ := Aside0.mk (hb); have n4_ := Aside0.mk (hi); clear BK874; clear BK883; clear HB; clear HI878; have BK874 := n0_; have BK883 := n1_; have HO886 := n2_; have HB := n3_; have HI878 := n4_; clear n0_ n1_ n2_ n3_ n4_; (try clear hb); (try clear hb2); (try clear hk); (try clear hi); (try clear ho0); have hcz50_0 : w49.cell? ⟨gb883, 0, none⟩ = some (.int .i64 t879) := (blk_cell BK883.out 0).trans rfl; have hcz50_1 : w49.cell? ⟨gb883, 1, none⟩ = some (.int .i64 t880) := (blk_cell BK883.out 1).trans rfl; have hfz50_0 := blk_frozen BK883.out 0; have hfz50_1 := blk_frozen BK883.out 1; obtain ⟨Ao51, co51, eo51⟩ := Kd.R_slice HO886.out; subst eo51) | ((with_reducible refine gate_callee (f := 44) rfl ?_); refine goesL_ (some 19) rfl rfl Try.func44 (by kernel_rfl) rfl #[.agg #[.int .i64 t879, .int .i64 t880], .slice Ao51 t884.length co51] rfl zf50_4 ?_; (with_reducible refine (spec_FirstFit.calls k t879 t880 _ _ t884 t889 _ ?side1 ?side2 A5.out).mono ?_); (case side1 => repeat (first | exact (Kd.R_reads' HO886.out).2.2 | (with_reducible refine Kd.C_alloc ?_ _) | (with_reducible refine Kd.C_drewN ?_ _) | (with_reducible refine Kd.C_drew ?_))); (case side2 => exact (Kd.R_reads' HO886.out).2.1); rintro e w52 ⟨v890, rfl, ho0, hb⟩; refine ⟨_, rfl, ?_⟩; have n0_ := Aside0.mk (Kd.R_below zf50_6 hb); have n1_ := Aside0.mk (Kd.N_lower (Kd.N_mono (ok' := fun k_ => (w.heap.size ≤ k_) ∧ some k_ ≠ (.slice Ao51 t884.length co51 : Value).ownBlock ∧ k_ ≠ gb874 ∧ k_ ≠ gb883 ∧ k_ ≠ g878) ho0 (fun k_ hk_ => ⟨(Nat.le_trans (below_size zf50_0) hk_), (Kd.fresh' (Kd.R_lt zf50_6) k_ hk_), (Kd.freshB (g := gb874) (o := .cells #[.int .i64 0, .int .i64 0] 49 (0, 0)) zf50_2 k_ hk_), (Kd.freshB (g := gb883) (o := .cells #[.int .i64 t879, .int .i64 t880] 49 (0, 0)) zf50_5 k_ hk_), (IsS109.fresh zf50_3 k_ hk_)⟩)) (below_size zf50_0)); have n2_ := Aside0.mk (blk_below (g := gb874) (o := .cells #[.int .i64 0, .int .i64 0] 49 (0, 0)) zf50_2 hb); have n3_ := Aside0.mk (IsS109.below zf50_3 hb); have n4_ := Aside0.mk (blk_below (g := gb883) (o := .cells #[.int .i64 t879, .int .i64 t880] 49 (0, 0)) zf50_5 hb); have n5_ := Aside0.mk (below_step zf50_0 hb); clear HO886; clear BK874; clear HI878; clear BK883; clear HB; have HO886 := n0_; have HO891 := n1_; have BK874 := n2_; have HI878 := n3_; have BK883 := n4_; have HB := n5_; clear n0_ n1_ n2_ n3_ n4_ n5_; (try clear hb); (try clear hb2); (try clear hk); (try clear hi); (try clear ho0); obtain ⟨Ao53, co53, eo53⟩ := Kd.N_slice HO891.out; subst eo53) | ((with_reducible refine gate_callee (f := 87) rfl ?_); refine goesL_ (some 26) rfl rfl Try.func87 (by kernel_rfl) rfl #[.pointer (some ⟨g878, 0, none⟩), .int .i64 (t889.length : Int)] rfl zf50_4 ?_; (with_reducible refine (spec_l01Below.calls g878 t875 t887 t888 (t889.length : Int) t892 t893 t894 w _ ?side1 ?side2 A7.out).mono ?_); (case side1 => repeat (first | (with_reducible first | exact HI878.out | apply IsS109.alloc | apply IsS109.drewN | apply IsS109.drew | apply IsS109.set_1 | apply IsS109.set_2 | refine IsS109.far ?_ NB878_874.out _ | refine IsS109.far ?_ NB878_883.out _) | exact HI878.out)); (case side2 => repeat (first | (with_reducible first | exact HB.out | apply below_alloc | apply pw_below_drewN | apply below_drew1 | refine below_set ?_ (IsS109.ge HI878.out) | refine below_set ?_ GE874.out | refine below_set ?_ GE883.out) | exact HB.out)); rintro e w54 ⟨rfl, hi, hb, hk⟩; refine ⟨_, rfl, ?_⟩; have n0_ := Aside0.mk (KeepBut.blk hk (g' := gb874) (o := .cells #[.int .i64 0, .int .i64 0] 49 (0, 0)) zf50_2 NB874_878.out (by simp)); have n1_ := Aside0.mk (KeepBut.blk hk (g' := gb883) (o := .cells #[.int .i64 t879, .int .i64 t880] 49 (0, 0)) zf50_5 NB883_878.out (by simp)); have n2_ := Aside0.mk (Kd.R_mono (Kd.R_keep (IsS109.apart (show IsS109 w _ g878 t875 t887 t888 from by repeat (first | (with_reducible first | exact HI878.out | apply IsS109.alloc | apply IsS109.drewN | apply IsS109.drew | apply IsS109.set_1 | apply IsS109.set_2 | refine IsS109.far ?_ NB878_874.out _ | refine IsS109.far ?_ NB878_883.out _) | exact HI878.out)) zf50_6 (by decide)) hk (fun _ h => h.2)) (fun _ h => h.1)); have n3_ := Aside0.mk (Kd.N_mono (Kd.N_keep (Kd.N_mono (ok := fun k_ => (((w.heap.size ≤ k_)) ∧ (some k_ ≠ (.slice Ao51 t884.length co51 : Value).ownBlock ∧ (k_ ≠ gb874 ∧ (k_ ≠ gb883 ∧ k_ ≠ g878))))) zf50_14 (fun k_ hk_ => (⟨hk_, hk_.2.2.2.2⟩ : _ ∧ k_ ≠ g878))) hk (fun _ h => h.2)) (fun _ h => h.1)); have n4_ := Aside0.mk (hb); have n5_ := Aside0.mk (hi); clear BK874; clear BK883; clear HO886; clear HO891; clear HB; clear HI878; have BK874 := n0_; have BK883 := n1_; have HO886 := n2_; have HO891 := n3_; have HB := n4_; have HI878 := n5_; clear n0_ n1_ n2_ n3_ n4_ n5_; (try clear hb); (try clear hb2); (try clear hk); (try clear hi)) | ((with_reducible refine gate_callee (f := 87) rfl ?_); refine goesL_ (some 28) rfl rfl Try.func87 (by kernel_rfl) rfl #[.pointer (some ⟨g878, 0, none⟩), .int .i64 8] rfl zf50_4 ?_; (with_reducible refine (spec_l01Below.calls g878 t875 t893 t894 8 t895 t896 t897 w _ ?side1 ?side2 A8.out).mono ?_); (case side1 => repeat (first | (with_reducible first | exact HI878.out | apply IsS109.alloc | apply IsS109.drewN | apply IsS109.drew | apply IsS109.set_1 | apply IsS109.set_2 | refine IsS109.far ?_ NB878_874.out _ | refine IsS109.far ?_ NB878_883.out _) | exact HI878.out)); (case side2 => repeat (first | (with_reducible first | exact HB.out | apply below_alloc | apply pw_below_drewN | apply below_drew1 | refine below_set ?_ (IsS109.ge HI878.out) | refine below_set ?_ GE874.out | refine below_set ?_ GE883.out) | exact HB.out)); rintro e w55 ⟨rfl, hi, hb, hk⟩; refine ⟨_, rfl, ?_⟩; have n0_ := Aside0.mk (KeepBut.blk hk (g' := gb874) (o := .cells #[.int .i64 0, .int .i64 0] 49 (0, 0)) zf50_2 NB874_878.out (by simp)); have n1_ := Aside0.mk (KeepBut.blk hk (g' := gb883) (o := .cells #[.int .i64 t879, .int .i64 t880] 49 (0, 0)) zf50_5 NB883_878.out (by simp)); have n2_ := Aside0.mk (Kd.R_mono (Kd.R_keep (IsS109.apart (show IsS109 w _ g878 t875 t893 t894 from by repeat (first | (with_reducible first | exact HI878.out | apply IsS109.alloc | apply IsS109.drewN | apply IsS109.drew | apply IsS109.set_1 | apply IsS109.set_2 | refine IsS109.far ?_ NB878_874.out _ | refine IsS109.far ?_ NB878_883.out _) | exact HI878.out)) zf50_6 (by decide)) hk (fun _ h => h.2)) (fun _ h => h.1)); have n3_ := Aside0.mk (Kd.N_mono (Kd.N_keep (Kd.N_mono (ok := fun k_ => (((w.heap.size ≤ k_)) ∧ (some k_ ≠ (.slice Ao51 t884.length co51 : Value).ownBlock ∧ (k_ ≠ gb874 ∧ (k_ ≠ gb883 ∧ k_ ≠ g878))))) zf50_14 (fun k_ hk_ => (⟨hk_, hk_.2.2.2.2⟩ : _ ∧ k_ ≠ g878))) hk (fun _ h => h.2)) (fun _ h => h.1)); have n4_ := Aside0.mk (hb); have n5_ := Aside0.mk (hi); clear BK874; clear BK883; clear HO886; clear HO891; clear HB; clear HI878; have BK874 := n0_; have BK883 := n1_; have HO886 := n2_; have HO891 := n3_; have HB := n4_; have HI878 := n5_; clear n0_ n1_ n2_ n3_ n4_ n5_; (try clear hb); (try clear hb2); (try clear hk); (try clear hi); have p906 : 0 ≤ (t892 : Int) := of_decide_eq_true zf50_17; have q906 : t892 < (t889.length : Int) := of_decide_eq_true zf50_17; obtain ⟨ad906, A906_2, c906_2, e906, hx906_0, hx906_1, hx906_2, hl906_2, hi906_2⟩ := at_T62 (Kd.N_reads' HO891.out).2.2 t892 p906 q906; cases e906; obtain ⟨ce906, hce906, hMe906, hcc906⟩ := Kd.N_get HO891.out z62 t892 p906 (by first | exact q906 | exact of_decide_eq_true zf50_17 | (have e_ := (Kd.N_reads' HO891.out).1; omega)); obtain ⟨ua906_2, uc906_2, rfl, ul906_2, ge906_2⟩ := k62_openF hMe906; have hv906_2 := hcc906 2 _ rfl; rw [add_field _ _ 2 (by omega)] at hv906_2; replace hv906_2 := Option.some.inj (hv906_2.symm.trans hx906_2); injection hv906_2 with hva_ hvn_ hvc_; rw [hva_] at ge906_2; rw [hvc_] at ul906_2; have HL906_2 := Aside0.mk (show Kd.V (Kd.int .i64) 3 _ w.heap.size _ _ ((rd_T62 t889 t892).f2) from Kd.V_mk ul906_2 ge906_2); clear hva_ hvn_ hvc_ ge906_2 ul906_2; clear hcc906 hce906; have HR906_2 := Aside0.mk hi906_2; have HC906_2 := Aside0.mk hl906_2; clear hi906_2 hl906_2; replace p906 := eq_true p906; replace q906 := eq_true q906; have p41 : 0 ≤ (t892 : Int) := of_decide_eq_true zf50_17; have q41 : (t892 : Int) < ((t889.length : Int) : Int) := of_decide_eq_true zf50_17; obtain ⟨go41, co41, eo41, gb41, gl41, cl41, HG41⟩ := Kd.N_form HO891.out (by omega); (first | cases eo41 | (injection eo41 with ea_ en_ ec_; (first | subst ea_ | (injection ea_ with ea_; subst ea_)); subst ec_; clear en_)); have GB41 := Aside0.mk gb41; have GG41 := Aside0.mk HG41; clear gb41 gl41 HG41; (first | simp only [add_plain] at hx906_0 | skip); (first | simp only [add_plain] at hx906_1 | skip); (first | simp only [add_plain] at hx906_2 | skip); obtain ⟨ce41, hcl41, hM41, hcc41, hfr41⟩ := Kd.N_elem HO891.out z62 (t892 : Int) p41 q41; obtain ⟨ua41_2, uc41_2, rfl, ul41_2, ge41_2⟩ := k62_openF hM41; have hx41_0 : w55.cell? ⟨go41, (t892 : Int).toNat * 3, none⟩ = some (.int .i64 ((rd_T62 t889 t892).f0)) := hcc41 0 _ rfl; have hx41_1 : w55.cell? ⟨go41, (t892 : Int).toNat * 3 + 1, none⟩ = some (.int .i64 ((rd_T62 t889 t892).f1)) := hcc41 1 _ rfl; have hx41_2 : w55.cell? ⟨go41, (t892 : Int).toNat * 3 + 2, none⟩ = some (.slice ua41_2 ((rd_T62 t889 t892).f2).length uc41_2) := hcc41 2 _ rfl; have hf41_0 : w55.frozen? ⟨go41, (t892 : Int).toNat * 3, none⟩ = false := hfr41 0; have hf41_1 : w55.frozen? ⟨go41, (t892 : Int).toNat * 3 + 1, none⟩ = false := hfr41 1; have hf41_2 : w55.frozen? ⟨go41, (t892 : Int).toNat * 3 + 2, none⟩ = false := hfr41 2; clear hcl41 hcc41 hfr41 hM41; replace p41 := eq_true p41; replace q41 := eq_true q41; have HX56 := Aside0.mk (show Kd.N k62 62 w55 w.heap.size (fun k_ => (w.heap.size ≤ k_) ∧ some k_ ≠ (.slice Ao51 t884.length co51 : Value).ownBlock ∧ k_ ≠ gb874 ∧ k_ ≠ gb883 ∧ k_ ≠ g878) (.slice (some ⟨go41, 0, none⟩) t889.length co53) t889 from zf50_14); obtain ⟨ce56, hcl56, hM56, hcc56, hfr56⟩ := Kd.N_elem HX56.out z62 (t892 : Int) (of_decide_eq_true zf50_17) zf50_20; obtain ⟨ua56_2, uc56_2, rfl, ul56_2, ge56_2⟩ := k62_openF hM56; have HP56 := Kd.N_seg HX56.out (t892 : Int) (of_decide_eq_true zf50_17) zf50_20 (seg := [.int .i64 (Int.tmod (wrap64 (((rd_T62 t889 t892).f0) + 1)) 6)]) (j := 0) hcl56 hcc56 (show 1 ≤ 3 from by decide) (x' := (⟨Int.tmod (wrap64 (((rd_T62 t889 t892).f0) + 1)) 6, (rd_T62 t889 t892).f1, (rd_T62 t889 t892).f2⟩ : S62)) (k62_mkF _ _ (⟨Int.tmod (wrap64 (((rd_T62 t889 t892).f0) + 1)) 6, (rd_T62 t889 t892).f1, (rd_T62 t889 t892).f2⟩ : S62) ul56_2 ge56_2) (fun _ hk => hk); have hx56_0 := hcc56 0 _ rfl; (try simp only [show (k62).sz = 3 from rfl, Nat.mul_one, Nat.add_zero] at hx56_0); have hf56_0 := hfr56 0; (try simp only [show (k62).sz = 3 from rfl, Nat.mul_one, Nat.add_zero] at hf56_0); clear hcl56 hcc56 hfr56 hM56) | ((with_reducible refine gate_store (t := 3) (p := 56) rfl ?_); refine store_event (t := 3) (p := 56) (v := ?vo_w57) (w1 := (w55.setCell ⟨go41, (t892 : Int).toNat * 3, none⟩ (.int .i64 (Int.tmod (wrap64 (((rd_T62 t889 t892).f0) + 1)) 6)))) ?hg ?ho ?hn ?hr ?_; (case ho => rfl); (case hg => rfl); (case hn => rfl); (case hr => first | (go_simp; done) | (go_simp; rfl)); intro w57 hw; have hg : w55.grownBy w57 (some go41) := (by rw [hw]; exact HP56.2); have hp_ : Kd.N k62 62 w57 w.heap.size (fun k_ => (w.heap.size ≤ k_) ∧ some k_ ≠ (.slice Ao51 t884.length co51 : Value).ownBlock ∧ k_ ≠ gb874 ∧ k_ ≠ gb883 ∧ k_ ≠ g878) (.slice (some ⟨go41, 0, none⟩) t889.length co53) y907 := (by rw [hw, Ny907.out]; exact HP56.1); clear HP56; have n0_ := Aside0.mk (blk_grown (g := gb874) (o := .cells #[.int .i64 0, .int .i64 0] 49 (0, 0)) zf50_2 hg (Kd.N_ne HO891.out BK874.out (by decide))); have n1_ := Aside0.mk (IsS109.grown zf50_3 hg (IsS109.own_neN HI878.out HO891.out (by decide))); have n2_ := Aside0.mk (blk_grown (g := gb883) (o := .cells #[.int .i64 t879, .int .i64 t880] 49 (0, 0)) zf50_5 hg (Kd.N_ne HO891.out BK883.out (by decide))); have n3_ := Aside0.mk (Kd.R_over' (v := (.slice (some ⟨go41, 0, none⟩) t889.length co53)) zf50_6 (Kd.N_typed HO891.out) (by decide) hg); have n4_ := Aside0.mk (hp_); have n5_ := Aside0.mk (Kd.V_afterv (v := (.slice (some ⟨go41, 0, none⟩) t889.length co53)) (v1 := (.slice (some ⟨go41, 0, none⟩) t889.length co53)) (ok := (fun k_ => (w.heap.size ≤ k_) ∧ some k_ ≠ (.slice Ao51 t884.length co51 : Value).ownBlock ∧ k_ ≠ gb874 ∧ k_ ≠ gb883 ∧ k_ ≠ g878)) (by (with_reducible repeat (first | apply Kd.V_alloc | apply Kd.V_drewN | apply Kd.V_drew)); exact HL906_2.out) hg (.inl rfl)); have n6_ := Aside0.mk ((by rw [hw]; exact below_set (HB.out) GB41.out : Below w.heap.size w w57)); clear BK874; clear HI878; clear BK883; clear HO886; clear HO891; clear HL906_2; clear HB; have BK874 := n0_; have HI878 := n1_; have BK883 := n2_; have HO886 := n3_; have HO891 := n4_; have HL906_2 := n5_; have HB := n6_; clear n0_ n1_ n2_ n3_ n4_ n5_ n6_; clear hg hw hp_; have hcz58_0 : w57.cell? ⟨gb883, 0, none⟩ = some (.int .i64 t879) := (blk_cell BK883.out 0).trans rfl; have hcz58_1 : w57.cell? ⟨gb883, 1, none⟩ = some (.int .i64 t880) := (blk_cell BK883.out 1).trans rfl; have hfz58_0 := blk_frozen BK883.out 0; have hfz58_1 := blk_frozen BK883.out 1; have hnb59 := NB874_878.out; have hnc59 := NB878_874.out; have hcz60_0 : w57.cell? ⟨gb874, 0, none⟩ = some (.int .i64 0) := (blk_cell BK874.out 0).trans rfl; have hcz60_1 : w57.cell? ⟨gb874, 1, none⟩ = some (.int .i64 0) := (blk_cell BK874.out 1).trans rfl; have hfz60_0 := blk_frozen BK874.out 0; have hfz60_1 := blk_frozen BK874.out 1))
      refine bodyPost_ret (results_ctt rfl _ _ gb874 49 #[.int .i64 t879, .int .i64 t880] (0, 0) _ rfl zf50_11 Try.underlying49 rfl (by kernel_rfl)) rfl ?_
      exact ⟨_, _, by first | rfl | (simp [errW_none, errW_some] <;> rfl) | (simp [*, errW_none, errW_some] <;> rfl), by (with_reducible repeat (first | apply Kd.R_alloc | apply Kd.R_drewN | apply Kd.R_drew)); exact Kd.R_mono (Kd.R_far (p := ⟨gb874, 1, none⟩) (Kd.R_far (p := ⟨gb874, 0, none⟩) (Kd.R_types HO886.out BK874.out (by decide)) (fun _ hk => hk.2) (.int .i64 t879)) (fun _ hk => hk.2) (.int .i64 t880)) (fun _ hk => hk.1.1), by (with_reducible repeat (first | apply Kd.N_alloc | apply Kd.N_drewN | apply Kd.N_drew)); exact Kd.N_mono (Kd.N_far (p := ⟨gb874, 1, none⟩) (Kd.N_far (p := ⟨gb874, 0, none⟩) (Kd.N_mono HO891.out (fun k_ hk => (⟨hk, hk.2.2.1⟩ : _ ∧ k_ ≠ gb874))) (fun _ hk => hk.2) (.int .i64 t879)) (fun _ hk => hk.2) (.int .i64 t880)) (fun _ hk => ⟨hk.1.1, hk.1.2.1⟩), by repeat (first | (with_reducible first | exact HB.out | apply below_alloc | apply pw_below_drewN | apply below_drew1 | refine below_set ?_ (IsS109.ge HI878.out) | refine below_set ?_ GE874.out | refine below_set ?_ GE883.out) | exact HB.out)⟩
     ·
      rw [if_neg c40] at H
      exact absurd H (by simp)
    ·
     rw [if_neg c39] at H
     exact absurd H (by simp)
   ·
    rw [if_neg c38] at H
    have c38b0 : (t895 == 1) = false := beq_eq_false_iff_ne.mpr c38
    have c38b1 : (t895 != 1) = true := bne_iff_ne.mpr c38
    by_cases c61 : t895 = 2
    ·
     rw [if_pos c61] at H
     have c61b0 : (t895 == 2) = true := beq_iff_eq.mpr c61
     have c61b1 : (t895 != 2) = false := bne_eq_false_iff_eq.mpr c61
     clear c61
     obtain ⟨y908, hy908⟩ : ∃ y_ : List Int, y_ = (([] : List Int)) := ⟨_, rfl⟩
     replace H : (if 0 ≤ t892 then (if t892 < (t889.length : Int) then (if y908.length + ((rd_T62 t889 t892).f2).length < 17592186044416 then ((some (y908 ++ ((rd_T62 t889 t892).f2) : List Int)).bind fun y912 => (if 0 < (t889.length : Int) then (if 0 < (((rd_T62 t889 0).f2).length : Int) then ((some (([rd ((rd_T62 t889 0).f2) 0] : List Int) : List Int)).bind fun y917 => (if y912.length + y917.length < 17592186044416 then (some (t879, t880, t884, (t889.set (t892 : Int).toNat (⟨(rd_T62 t889 t892).f0, (rd_T62 t889 t892).f1, (y912 ++ y917)⟩ : S62)))) else (none))) else (none)) else (none))) else (none)) else (none)) else (none)) = some (r1, r2, r3, r4) := by first | (rw [hy908]; with_reducible exact H) | (have H2_ := (Option.bind_some _ _).symm.trans H; rw [hy908]; with_reducible exact H2_) | (have H2_ := (Option.bind_some _ _).symm.trans H; with_reducible exact H2_) | with_reducible exact H | (rw [hy908]; exact H) | exact H
     have Ny908 := Aside0.mk hy908
     clear hy908
     by_cases c62 : 0 ≤ t892
     ·
      rw [if_pos c62] at H
      have c62b0 : decide (0 ≤ t892) = true := decide_eq_true c62
      clear c62
      by_cases c63 : t892 < (t889.length : Int)
      ·
       rw [if_pos c63] at H
       have c63b0 : decide (t892 < (t889.length : Int)) = true := decide_eq_true c63
       clear c63
       by_cases c64 : y908.length + ((rd_T62 t889 t892).f2).length < 17592186044416
       ·
        rw [if_pos c64] at H
        have LMc64 := Aside0.mk c64
        clear c64
        obtain ⟨y912, hy912⟩ : ∃ y_ : List Int, y_ = (y908 ++ ((rd_T62 t889 t892).f2)) := ⟨_, rfl⟩
        replace H : (if 0 < (t889.length : Int) then (if 0 < (((rd_T62 t889 0).f2).length : Int) then ((some (([rd ((rd_T62 t889 0).f2) 0] : List Int) : List Int)).bind fun y917 => (if y912.length + y917.length < 17592186044416 then (some (t879, t880, t884, (t889.set (t892 : Int).toNat (⟨(rd_T62 t889 t892).f0, (rd_T62 t889 t892).f1, (y912 ++ y917)⟩ : S62)))) else (none))) else (none)) else (none)) = some (r1, r2, r3, r4) := by first | (rw [hy912]; with_reducible exact H) | (have H2_ := (Option.bind_some _ _).symm.trans H; rw [hy912]; with_reducible exact H2_) | (have H2_ := (Option.bind_some _ _).symm.trans H; with_reducible exact H2_) | with_reducible exact H | (rw [hy912]; exact H) | exact H
        have Ny912 := Aside0.mk hy912
        clear hy912
        by_cases c65 : 0 < (t889.length : Int)
        ·
         rw [if_pos c65] at H
         have c65b0 : decide (0 < (t889.length : Int)) = true := decide_eq_true c65
         have c65b1 : decide (0 < t889.length) = true := decide_eq_true (by omega)
         clear c65
         by_cases c66 : 0 < (((rd_T62 t889 0).f2).length : Int)
         ·
          rw [if_pos c66] at H
          have c66b0 : decide (0 < (((rd_T62 t889 0).f2).length : Int)) = true := decide_eq_true c66
          have c66b1 : decide (0 < ((rd_T62 t889 0).f2).length) = true := decide_eq_true (by omega)
          clear c66
          obtain ⟨y917, hy917⟩ : ∃ y_ : List Int, y_ = (([rd ((rd_T62 t889 0).f2) 0] : List Int)) := ⟨_, rfl⟩
          replace H : (if y912.length + y917.length < 17592186044416 then (some (t879, t880, t884, (t889.set (t892 : Int).toNat (⟨(rd_T62 t889 t892).f0, (rd_T62 t889 t892).f1, (y912 ++ y917)⟩ : S62)))) else (none)) = some (r1, r2, r3, r4) := by first | (rw [hy917]; with_reducible exact H) | (have H2_ := (Option.bind_some _ _).symm.trans H; rw [hy917]; with_reducible exact H2_) | (have H2_ := (Option.bind_some _ _).symm.trans H; with_reducible exact H2_) | with_reducible exact H | (rw [hy917]; exact H) | exact H
          have Ny917 := Aside0.mk hy917
          clear hy917
          by_cases c67 : y912.length + y917.length < 17592186044416
          ·
           rw [if_pos c67] at H
           have LMc67 := Aside0.mk c67
           clear c67
           obtain ⟨y920, hy920⟩ : ∃ y_ : List Int, y_ = (y912 ++ y917) := ⟨_, rfl⟩
           replace H : (some (t879, t880, t884, (t889.set (t892 : Int).toNat (⟨(rd_T62 t889 t892).f0, (rd_T62 t889 t892).f1, y920⟩ : S62)))) = some (r1, r2, r3, r4) := by first | (rw [hy920]; with_reducible exact H) | (have H2_ := (Option.bind_some _ _).symm.trans H; rw [hy920]; with_reducible exact H2_) | (have H2_ := (Option.bind_some _ _).symm.trans H; with_reducible exact H2_) | with_reducible exact H | (rw [hy920]; exact H) | exact H
           have Ny920 := Aside0.mk hy920
           clear hy920
           obtain ⟨y923, hy923⟩ : ∃ y_ : List (S62), y_ = (t889.set (t892 : Int).toNat (⟨(rd_T62 t889 t892).f0, (rd_T62 t889 t892).f1, y920⟩ : S62)) := ⟨_, rfl⟩
           replace H : (some (t879, t880, t884, y923)) = some (r1, r2, r3, r4) := by first | (rw [hy923]; with_reducible exact H) | (have H2_ := (Option.bind_some _ _).symm.trans H; rw [hy923]; with_reducible exact H2_) | (have H2_ := (Option.bind_some _ _).symm.trans H; with_reducible exact H2_) | with_reducible exact H | (rw [hy923]; exact H) | exact H
           have Ny923 := Aside0.mk hy923
           clear hy923
           simp only [Option.some.injEq, Prod.mk.injEq] at H
           obtain ⟨rfl, rfl, rfl, rfl⟩ := H
           go_enter Try.func50, Try.ntmps50
           try go_wp2_with (first | ((with_reducible refine gate_dst (N := 2) rfl ?_); refine box_event ?hg (N := 2) ?hd (cs := #[.int .i64 0, .int .i64 0]) (t := 49) ?hr ?_; (case hd => rfl); (case hg => rfl); (case hr => first | (go_simp; done) | (go_simp; rfl)); intro gb874 hg w69 hbox hb; have n0_ := Aside0.mk (below_step zf50_12 hb); have n1_ := Aside0.mk (hbox); have n2_ := Aside0.mk ((zf50_27 : w.heap.size ≤ gb874)); have n3_ := Aside0.mk ((zf50_27 : w.heap.size ≤ gb874)); clear HB; have HB := n0_; have BK874 := n1_; have GW874 := n2_; have GE874 := n3_; clear n0_ n1_ n2_ n3_; clear hb hbox hg) | ((with_reducible refine gate_callee (f := 66) rfl ?_); refine goesL_ (some 12) rfl rfl Try.func66 (by kernel_rfl) rfl #[.slice A0 l0.length c0] rfl zf50_4 ?_; (with_reducible refine (spec_l01New.calls k _ _ l0 t875 t876 t877 w _ ?side1 ?side2 ?side3 A2.out).mono ?_); (case side1 => repeat (first | (with_reducible first | exact HB.out | apply below_alloc | apply pw_below_drewN | apply below_drew1 | refine below_set ?_ GE874.out) | exact HB.out)); (case side2 => exact HR0.out); (case side3 => exact HC0.out); rintro e w70 ⟨g878, rfl, hi, hb, hb2⟩; refine ⟨_, rfl, ?_⟩; have n0_ := Aside0.mk (blk_below (g := gb874) (o := .cells #[.int .i64 0, .int .i64 0] 49 (0, 0)) zf50_2 hb2); have n1_ := Aside0.mk (hb); have n2_ := Aside0.mk (hi); have n3_ := Aside0.mk (IsS109.ne_blk hi (blk_below (g := gb874) (o := .cells #[.int .i64 0, .int .i64 0] 49 (0, 0)) zf50_2 hb2) (by decide)); have n4_ := Aside0.mk (Ne.symm (IsS109.ne_blk hi (blk_below (g := gb874) (o := .cells #[.int .i64 0, .int .i64 0] 49 (0, 0)) zf50_2 hb2) (by decide))); clear BK874; clear HB; have BK874 := n0_; have HB := n1_; have HI878 := n2_; have NB878_874 := n3_; have NB874_878 := n4_; clear n0_ n1_ n2_ n3_ n4_; (try clear hb); (try clear hb2); (try clear hk); (try clear hi)) | ((with_reducible refine gate_callee (f := 85) rfl ?_); refine goesL_ (some 14) rfl rfl Try.func85 (by kernel_rfl) rfl #[.pointer (some ⟨g878, 0, none⟩)] rfl zf50_4 ?_; (with_reducible refine (spec_l07AnyLimits.calls g878 t875 t876 t877 t879 t880 t881 t882 w _ ?side1 ?side2 A3.out).mono ?_); (case side1 => repeat (first | (with_reducible first | exact HI878.out | apply IsS109.alloc | apply IsS109.drewN | apply IsS109.drew | apply IsS109.set_1 | apply IsS109.set_2 | refine IsS109.far ?_ NB878_874.out _) | exact HI878.out)); (case side2 => repeat (first | (with_reducible first | exact HB.out | apply below_alloc | apply pw_below_drewN | apply below_drew1 | refine below_set ?_ (IsS109.ge HI878.out) | refine below_set ?_ GE874.out) | exact HB.out)); rintro e w71 ⟨rfl, hi, hb, hk⟩; refine ⟨_, rfl, ?_⟩; have n0_ := Aside0.mk (KeepBut.blk hk (g' := gb874) (o := .cells #[.int .i64 0, .int .i64 0] 49 (0, 0)) zf50_2 NB874_878.out (by simp)); have n1_ := Aside0.mk (hb); have n2_ := Aside0.mk (hi); clear BK874; clear HB; clear HI878; have BK874 := n0_; have HB := n1_; have HI878 := n2_; clear n0_ n1_ n2_; (try clear hb); (try clear hb2); (try clear hk); (try clear hi)) | ((with_reducible refine gate_dst (N := 6) rfl ?_); refine box_event ?hg (N := 6) ?hd (cs := #[.int .i64 0, .int .i64 0]) (t := 49) ?hr ?_; (case hd => rfl); (case hg => rfl); (case hr => first | (go_simp; done) | (go_simp; rfl)); intro gb883 hg w72 hbox hb; have n0_ := Aside0.mk (blk_below (g := gb874) (o := .cells #[.int .i64 0, .int .i64 0] 49 (0, 0)) zf50_2 hb); have n1_ := Aside0.mk (IsS109.below zf50_18 hb); have n2_ := Aside0.mk (below_step zf50_7 hb); have n3_ := Aside0.mk (hbox); have n4_ := Aside0.mk ((by rw [hg]; exact (below_size zf50_7) : w.heap.size ≤ gb883)); have n5_ := Aside0.mk ((by rw [hg]; exact (below_size zf50_7) : w.heap.size ≤ gb883)); have n6_ := Aside0.mk ((zf50_22 : gb874 ≠ gb883)); have n7_ := Aside0.mk ((zf50_23 : gb883 ≠ gb874)); have n8_ := Aside0.mk ((zf50_15 : g878 ≠ gb883)); have n9_ := Aside0.mk ((zf50_16 : gb883 ≠ g878)); clear BK874; clear HI878; clear HB; have BK874 := n0_; have HI878 := n1_; have HB := n2_; have BK883 := n3_; have GW883 := n4_; have GE883 := n5_; have NB874_883 := n6_; have NB883_874 := n7_; have NB878_883 := n8_; have NB883_878 := n9_; clear n0_ n1_ n2_ n3_ n4_ n5_ n6_ n7_ n8_ n9_; clear hb hbox hg; have hnb73 := NB883_874.out; have hnc73 := NB874_883.out; have hnb74 := NB883_878.out; have hnc74 := NB878_883.out; have hcz75_0 : w72.cell? ⟨gb883, 0, none⟩ = some (.int .i64 0) := (blk_cell BK883.out 0).trans rfl; have hcz75_1 : w72.cell? ⟨gb883, 1, none⟩ = some (.int .i64 0) := (blk_cell BK883.out 1).trans rfl; have hfz75_0 := blk_frozen BK883.out 0; have hfz75_1 := blk_frozen BK883.out 1) | ((with_reducible refine gate_callee (f := 86) rfl ?_); refine goesL_ (some 16) rfl rfl Try.func86 (by kernel_rfl) rfl #[.pointer (some ⟨g878, 0, none⟩), .int .i64 8] rfl zf50_4 ?_; (with_reducible refine (spec_l07AnyPieces.calls k g878 t875 t881 t882 8 t884 t887 t888 w _ ?side1 ?side2 A4.out).mono ?_); (case side1 => repeat (first | (with_reducible first | exact HI878.out | apply IsS109.alloc | apply IsS109.drewN | apply IsS109.drew | apply IsS109.set_1 | apply IsS109.set_2 | refine IsS109.far ?_ NB878_874.out _ | refine IsS109.far ?_ NB878_883.out _) | exact HI878.out)); (case side2 => repeat (first | (with_reducible first | exact HB.out | apply below_alloc | apply pw_below_drewN | apply below_drew1 | refine below_set ?_ (IsS109.ge HI878.out) | refine below_set ?_ GE874.out | refine below_set ?_ GE883.out) | exact HB.out)); rintro e w76 ⟨v885, rfl, ho0, hi, hb, hk⟩; refine ⟨_, rfl, ?_⟩; have n0_ := Aside0.mk (KeepBut.blk hk (g' := gb874) (o := .cells #[.int .i64 0, .int .i64 0] 49 (0, 0)) zf50_13 NB874_878.out (by simp)); have n1_ := Aside0.mk (KeepBut.blk hk (g' := gb883) (o := .cells #[.int .i64 t879, .int .i64 t880] 49 (0, 0)) zf50_10 NB883_878.out (by simp)); have n2_ := Aside0.mk (Kd.R_lower (Kd.R_newM (M := fun k_ => (w.heap.size ≤ k_)) ho0 (below_size zf50_0) (fun k_ h_ => h_)) (below_size zf50_0)); have n3_ := Aside0.mk (hb); have n4_ := Aside0.mk (hi); clear BK874; clear BK883; clear HB; clear HI878; have BK874 := n0_; have BK883 := n1_; have HO886 := n2_; have HB := n3_; have HI878 := n4_; clear n0_ n1_ n2_ n3_ n4_; (try clear hb); (try clear hb2); (try clear hk); (try clear hi); (try clear ho0); have hcz77_0 : w76.cell? ⟨gb883, 0, none⟩ = some (.int .i64 t879) := (blk_cell BK883.out 0).trans rfl; have hcz77_1 : w76.cell? ⟨gb883, 1, none⟩ = some (.int .i64 t880) := (blk_cell BK883.out 1).trans rfl; have hfz77_0 := blk_frozen BK883.out 0; have hfz77_1 := blk_frozen BK883.out 1; obtain ⟨Ao78, co78, eo78⟩ := Kd.R_slice HO886.out; subst eo78) | ((with_reducible refine gate_callee (f := 44) rfl ?_); refine goesL_ (some 19) rfl rfl Try.func44 (by kernel_rfl) rfl #[.agg #[.int .i64 t879, .int .i64 t880], .slice Ao78 t884.length co78] rfl zf50_4 ?_; (with_reducible refine (spec_FirstFit.calls k t879 t880 _ _ t884 t889 _ ?side1 ?side2 A5.out).mono ?_); (case side1 => repeat (first | exact (Kd.R_reads' HO886.out).2.2 | (with_reducible refine Kd.C_alloc ?_ _) | (with_reducible refine Kd.C_drewN ?_ _) | (with_reducible refine Kd.C_drew ?_))); (case side2 => exact (Kd.R_reads' HO886.out).2.1); rintro e w79 ⟨v890, rfl, ho0, hb⟩; refine ⟨_, rfl, ?_⟩; have n0_ := Aside0.mk (Kd.R_below zf50_6 hb); have n1_ := Aside0.mk (Kd.N_lower (Kd.N_mono (ok' := fun k_ => (w.heap.size ≤ k_) ∧ some k_ ≠ (.slice Ao78 t884.length co78 : Value).ownBlock ∧ k_ ≠ gb874 ∧ k_ ≠ gb883 ∧ k_ ≠ g878) ho0 (fun k_ hk_ => ⟨(Nat.le_trans (below_size zf50_0) hk_), (Kd.fresh' (Kd.R_lt zf50_6) k_ hk_), (Kd.freshB (g := gb874) (o := .cells #[.int .i64 0, .int .i64 0] 49 (0, 0)) zf50_2 k_ hk_), (Kd.freshB (g := gb883) (o := .cells #[.int .i64 t879, .int .i64 t880] 49 (0, 0)) zf50_5 k_ hk_), (IsS109.fresh zf50_3 k_ hk_)⟩)) (below_size zf50_0)); have n2_ := Aside0.mk (blk_below (g := gb874) (o := .cells #[.int .i64 0, .int .i64 0] 49 (0, 0)) zf50_2 hb); have n3_ := Aside0.mk (IsS109.below zf50_3 hb); have n4_ := Aside0.mk (blk_below (g := gb883) (o := .cells #[.int .i64 t879, .int .i64 t880] 49 (0, 0)) zf50_5 hb); have n5_ := Aside0.mk (below_step zf50_0 hb); clear HO886; clear BK874; clear HI878; clear BK883; clear HB; have HO886 := n0_; have HO891 := n1_; have BK874 := n2_; have HI878 := n3_; have BK883 := n4_; have HB := n5_; clear n0_ n1_ n2_ n3_ n4_ n5_; (try clear hb); (try clear hb2); (try clear hk); (try clear hi); (try clear ho0); obtain ⟨Ao80, co80, eo80⟩ := Kd.N_slice HO891.out; subst eo80) | ((with_reducible refine gate_callee (f := 87) rfl ?_); refine goesL_ (some 26) rfl rfl Try.func87 (by kernel_rfl) rfl #[.pointer (some ⟨g878, 0, none⟩), .int .i64 (t889.length : Int)] rfl zf50_4 ?_; (with_reducible refine (spec_l01Below.calls g878 t875 t887 t888 (t889.length : Int) t892 t893 t894 w _ ?side1 ?side2 A7.out).mono ?_); (case side1 => repeat (first | (with_reducible first | exact HI878.out | apply IsS109.alloc | apply IsS109.drewN | apply IsS109.drew | apply IsS109.set_1 | apply IsS109.set_2 | refine IsS109.far ?_ NB878_874.out _ | refine IsS109.far ?_ NB878_883.out _) | exact HI878.out)); (case side2 => repeat (first | (with_reducible first | exact HB.out | apply below_alloc | apply pw_below_drewN | apply below_drew1 | refine below_set ?_ (IsS109.ge HI878.out) | refine below_set ?_ GE874.out | refine below_set ?_ GE883.out) | exact HB.out)); rintro e w81 ⟨rfl, hi, hb, hk⟩; refine ⟨_, rfl, ?_⟩; have n0_ := Aside0.mk (KeepBut.blk hk (g' := gb874) (o := .cells #[.int .i64 0, .int .i64 0] 49 (0, 0)) zf50_2 NB874_878.out (by simp)); have n1_ := Aside0.mk (KeepBut.blk hk (g' := gb883) (o := .cells #[.int .i64 t879, .int .i64 t880] 49 (0, 0)) zf50_5 NB883_878.out (by simp)); have n2_ := Aside0.mk (Kd.R_mono (Kd.R_keep (IsS109.apart (show IsS109 w _ g878 t875 t887 t888 from by repeat (first | (with_reducible first | exact HI878.out | apply IsS109.alloc | apply IsS109.drewN | apply IsS109.drew | apply IsS109.set_1 | apply IsS109.set_2 | refine IsS109.far ?_ NB878_874.out _ | refine IsS109.far ?_ NB878_883.out _) | exact HI878.out)) zf50_6 (by decide)) hk (fun _ h => h.2)) (fun _ h => h.1)); have n3_ := Aside0.mk (Kd.N_mono (Kd.N_keep (Kd.N_mono (ok := fun k_ => (((w.heap.size ≤ k_)) ∧ (some k_ ≠ (.slice Ao78 t884.length co78 : Value).ownBlock ∧ (k_ ≠ gb874 ∧ (k_ ≠ gb883 ∧ k_ ≠ g878))))) zf50_14 (fun k_ hk_ => (⟨hk_, hk_.2.2.2.2⟩ : _ ∧ k_ ≠ g878))) hk (fun _ h => h.2)) (fun _ h => h.1)); have n4_ := Aside0.mk (hb); have n5_ := Aside0.mk (hi); clear BK874; clear BK883; clear HO886; clear HO891; clear HB; clear HI878; have BK874 := n0_; have BK883 := n1_; have HO886 := n2_; have HO891 := n3_; have HB := n4_; have HI878 := n5_; clear n0_ n1_ n2_ n3_ n4_ n5_; (try clear hb); (try clear hb2); (try clear hk); (try clear hi)) | ((with_reducible refine gate_callee (f := 87) rfl ?_); refine goesL_ (some 28) rfl rfl Try.func87 (by kernel_rfl) rfl #[.pointer (some ⟨g878, 0, none⟩), .int .i64 8] rfl zf50_4 ?_; (with_reducible refine (spec_l01Below.calls g878 t875 t893 t894 8 t895 t896 t897 w _ ?side1 ?side2 A8.out).mono ?_); (case side1 => repeat (first | (with_reducible first | exact HI878.out | apply IsS109.alloc | apply IsS109.drewN | apply IsS109.drew | apply IsS109.set_1 | apply IsS109.set_2 | refine IsS109.far ?_ NB878_874.out _ | refine IsS109.far ?_ NB878_883.out _) | exact HI878.out)); (case side2 => repeat (first | (with_reducible first | exact HB.out | apply below_alloc | apply pw_below_drewN | apply below_drew1 | refine below_set ?_ (IsS109.ge HI878.out) | refine below_set ?_ GE874.out | refine below_set ?_ GE883.out) | exact HB.out)); rintro e w82 ⟨rfl, hi, hb, hk⟩; refine ⟨_, rfl, ?_⟩; have n0_ := Aside0.mk (KeepBut.blk hk (g' := gb874) (o := .cells #[.int .i64 0, .int .i64 0] 49 (0, 0)) zf50_2 NB874_878.out (by simp)); have n1_ := Aside0.mk (KeepBut.blk hk (g' := gb883) (o := .cells #[.int .i64 t879, .int .i64 t880] 49 (0, 0)) zf50_5 NB883_878.out (by simp)); have n2_ := Aside0.mk (Kd.R_mono (Kd.R_keep (IsS109.apart (show IsS109 w _ g878 t875 t893 t894 from by repeat (first | (with_reducible first | exact HI878.out | apply IsS109.alloc | apply IsS109.drewN | apply IsS109.drew | apply IsS109.set_1 | apply IsS109.set_2 | refine IsS109.far ?_ NB878_874.out _ | refine IsS109.far ?_ NB878_883.out _) | exact HI878.out)) zf50_6 (by decide)) hk (fun _ h => h.2)) (fun _ h => h.1)); have n3_ := Aside0.mk (Kd.N_mono (Kd.N_keep (Kd.N_mono (ok := fun k_ => (((w.heap.size ≤ k_)) ∧ (some k_ ≠ (.slice Ao78 t884.length co78 : Value).ownBlock ∧ (k_ ≠ gb874 ∧ (k_ ≠ gb883 ∧ k_ ≠ g878))))) zf50_14 (fun k_ hk_ => (⟨hk_, hk_.2.2.2.2⟩ : _ ∧ k_ ≠ g878))) hk (fun _ h => h.2)) (fun _ h => h.1)); have n4_ := Aside0.mk (hb); have n5_ := Aside0.mk (hi); clear BK874; clear BK883; clear HO886; clear HO891; clear HB; clear HI878; have BK874 := n0_; have BK883 := n1_; have HO886 := n2_; have HO891 := n3_; have HB := n4_; have HI878 := n5_; clear n0_ n1_ n2_ n3_ n4_ n5_; (try clear hb); (try clear hb2); (try clear hk); (try clear hi)))
           have n0_ := Aside0.mk (Kd.R_drew HO886.out)
           have n1_ := Aside0.mk (Kd.N_drew HO891.out)
           have n2_ := Aside0.mk (blk_drew BK874.out)
           have n3_ := Aside0.mk (blk_drew BK883.out)
           have n4_ := Aside0.mk (IsS109.drew HI878.out)
           have n5_ := Aside0.mk (below_drew1 HB.out)
           clear HO886
           clear HO891
           clear BK874
           clear BK883
           clear HI878
           clear HB
           have HO886 := n0_
           have HO891 := n1_
           have BK874 := n2_
           have BK883 := n3_
           have HI878 := n4_
           have HB := n5_
           clear n0_ n1_ n2_ n3_ n4_ n5_
           have p911 : 0 ≤ (t892 : Int) := of_decide_eq_true zf50_17
           have q911 : t892 < (t889.length : Int) := of_decide_eq_true zf50_17
           obtain ⟨ad911, A911_2, c911_2, e911, hx911_0, hx911_1, hx911_2, hl911_2, hi911_2⟩ := at_T62 (Kd.N_reads' HO891.out).2.2 t892 p911 q911
           cases e911
           obtain ⟨ce911, hce911, hMe911, hcc911⟩ := Kd.N_get HO891.out z62 t892 p911 (by first | exact q911 | exact of_decide_eq_true zf50_17 | (have e_ := (Kd.N_reads' HO891.out).1; omega))
           obtain ⟨ua911_2, uc911_2, rfl, ul911_2, ge911_2⟩ := k62_openF hMe911
           have hv911_2 := hcc911 2 _ rfl
           rw [add_field _ _ 2 (by omega)] at hv911_2
           replace hv911_2 := Option.some.inj (hv911_2.symm.trans hx911_2)
           injection hv911_2 with hva_ hvn_ hvc_
           rw [hva_] at ge911_2
           rw [hvc_] at ul911_2
           have HL911_2 := Aside0.mk (show Kd.V (Kd.int .i64) 3 _ w.heap.size _ _ ((rd_T62 t889 t892).f2) from Kd.V_mk ul911_2 ge911_2)
           clear hva_ hvn_ hvc_ ge911_2 ul911_2
           clear hcc911 hce911
           have HR911_2 := Aside0.mk hi911_2
           have HC911_2 := Aside0.mk hl911_2
           clear hi911_2 hl911_2
           replace p911 := eq_true p911
           replace q911 := eq_true q911
           have p915 : 0 ≤ (0 : Int) := (by omega)
           have q915 : 0 < (t889.length : Int) := of_decide_eq_true zf50_17
           obtain ⟨ad915, A915_2, c915_2, e915, hx915_0, hx915_1, hx915_2, hl915_2, hi915_2⟩ := at_T62 (Kd.N_reads' HO891.out).2.2 0 p915 q915
           obtain rfl : ad911 = ad915 := (by injection e915)
           obtain ⟨ce915, hce915, hMe915, hcc915⟩ := Kd.N_get HO891.out z62 0 p915 (by first | exact q915 | exact of_decide_eq_true zf50_17 | (have e_ := (Kd.N_reads' HO891.out).1; omega))
           obtain ⟨ua915_2, uc915_2, rfl, ul915_2, ge915_2⟩ := k62_openF hMe915
           have hv915_2 := hcc915 2 _ rfl
           rw [add_field _ _ 2 (by omega)] at hv915_2
           replace hv915_2 := Option.some.inj (hv915_2.symm.trans hx915_2)
           injection hv915_2 with hva_ hvn_ hvc_
           rw [hva_] at ge915_2
           rw [hvc_] at ul915_2
           have HL915_2 := Aside0.mk (show Kd.V (Kd.int .i64) 3 _ w.heap.size _ _ ((rd_T62 t889 0).f2) from Kd.V_mk ul915_2 ge915_2)
           clear hva_ hvn_ hvc_ ge915_2 ul915_2
           clear hcc915 hce915
           have qi915 : (0 < t889.length) = True := eq_true (by omega)
           (try rw [show ((0 : Int)).toNat = 0 from rfl] at hx915_0)
           (try rw [show 0 * 3 = 0 from rfl] at hx915_0)
           (try rw [Addr.add_zero'] at hx915_0)
           (try rw [show ((0 : Int)).toNat = 0 from rfl] at hx915_1)
           (try rw [show 0 * 3 = 0 from rfl] at hx915_1)
           (try rw [Addr.add_zero'] at hx915_1)
           (try rw [show ((0 : Int)).toNat = 0 from rfl] at hx915_2)
           (try rw [show 0 * 3 = 0 from rfl] at hx915_2)
           (try rw [Addr.add_zero'] at hx915_2)
           have HR915_2 := Aside0.mk hi915_2
           have HC915_2 := Aside0.mk hl915_2
           clear hi915_2 hl915_2
           replace p915 := eq_true p915
           replace q915 := eq_true q915
           have p916 : 0 ≤ (0 : Int) := (by omega)
           have q916 : 0 < (((rd_T62 t889 0).f2).length : Int) := of_decide_eq_true zf50_17
           obtain ⟨ad916, e916, hx916_0⟩ := Kd.at_int zf50_21 0 p916 q916
           cases e916
           have qi916 : (0 < ((rd_T62 t889 0).f2).length) = True := eq_true (by omega)
           (try rw [show ((0 : Int)).toNat = 0 from rfl] at hx916_0)
           (try rw [Addr.add_zero'] at hx916_0)
           replace p916 := eq_true p916
           replace q916 := eq_true q916
           refine start_ (n := 20) (S := fun w' => w'.cell? (ad911.add ((t892).toNat * 3)) = some (.int .i64 ((rd_T62 t889 t892).f0)) ∧ w'.cell? ⟨(ad911.add ((t892).toNat * 3)).block, (ad911.add ((t892).toNat * 3)).off + 1, none⟩ = some (.int .i64 ((rd_T62 t889 t892).f1)) ∧ w'.cell? ⟨(ad911.add ((t892).toNat * 3)).block, (ad911.add ((t892).toNat * 3)).off + 2, none⟩ = some (.slice A911_2 ((rd_T62 t889 t892).f2).length c911_2) ∧ w'.cell? ad911 = some (.int .i64 ((rd_T62 t889 0).f0)) ∧ w'.cell? ⟨ad911.block, ad911.off + 1, none⟩ = some (.int .i64 ((rd_T62 t889 0).f1)) ∧ w'.cell? ⟨ad911.block, ad911.off + 2, none⟩ = some (.slice (some ad916) ((rd_T62 t889 0).f2).length c915_2) ∧ w'.cell? ad916 = some (.int .i64 (rd ((rd_T62 t889 0).f2) 0))) (ds := [19]) #[false, false, false, false, false, false, false, false, false, false, false, false, false, false, false, false, false, false, false, false] (by kernel_rfl) rfl rfl ⟨hx911_0, hx911_1, hx911_2, hx915_0, hx915_1, hx915_2, hx916_0⟩ (fun hHeld => ?_); refine with_tabW spec_DrawBoxesOk.tab14 spec_DrawBoxesOk.bits14 (fun HT_ HW_ => ?_)
           generalize w82.drew = w83 at HO886 HO891 BK874 BK883 HI878 HB HL911_2 HL915_2 HR911_2 HR915_2 hx911_0 hx911_1 hx911_2 hx915_0 hx915_1 hx915_2 hx916_0 hHeld ⊢
           refine pS 0 59 ?_
           refine pS 1 60 ?_
           refine pS 3 62 ?_
           refine pS 4 63 ?_
           refine pS 5 64 ?_
           refine pS 6 65 ?_
           refine pS 9 68 ?_
           refine pS 10 69 ?_
           refine pS 11 70 ?_
           refine tS 7 66 ?_
           refine tS 12 71 ?_
           refine pS 13 72 ?_
           refine tS 14 73 ?_
           refine join_ (σ := Value × Value × Value) 4 #[true, true, true, true, true, true, true, true, true, true, true, true, true, true, true, true, false, false, false, false] (fun s_ => [(61, s_.1), (67, s_.2.1), (74, s_.2.2)]) (fun s_ w' => (w'.cell? (ad911.add ((t892).toNat * 3)) = some (.int .i64 ((rd_T62 t889 t892).f0)) ∧ w'.cell? ⟨(ad911.add ((t892).toNat * 3)).block, (ad911.add ((t892).toNat * 3)).off + 1, none⟩ = some (.int .i64 ((rd_T62 t889 t892).f1)) ∧ w'.cell? ⟨(ad911.add ((t892).toNat * 3)).block, (ad911.add ((t892).toNat * 3)).off + 2, none⟩ = some (.slice A911_2 ((rd_T62 t889 t892).f2).length c911_2) ∧ w'.cell? ad911 = some (.int .i64 ((rd_T62 t889 0).f0)) ∧ w'.cell? ⟨ad911.block, ad911.off + 1, none⟩ = some (.int .i64 ((rd_T62 t889 0).f1)) ∧ w'.cell? ⟨ad911.block, ad911.off + 2, none⟩ = some (.slice (some ad916) ((rd_T62 t889 0).f2).length c915_2) ∧ w'.cell? ad916 = some (.int .i64 (rd ((rd_T62 t889 0).f2) 0))) ∧ (Kd.V (Kd.int .i64) 3 w' w.heap.size (fun k_ => (w.heap.size ≤ k_) ∧ some k_ ≠ (.slice Ao78 t884.length co78 : Value).ownBlock ∧ some k_ ≠ (.slice (some ad911) t889.length co80 : Value).ownBlock ∧ some k_ ≠ (s_.2.1 : Value).ownBlock ∧ some k_ ≠ (s_.2.2 : Value).ownBlock ∧ k_ ≠ gb874 ∧ k_ ≠ g878 ∧ k_ ≠ gb883) (.slice A911_2 ((rd_T62 t889 t892).f2).length c911_2) ((rd_T62 t889 t892).f2)) ∧ (Kd.V (Kd.int .i64) 3 w' w.heap.size (fun k_ => (w.heap.size ≤ k_) ∧ some k_ ≠ (.slice Ao78 t884.length co78 : Value).ownBlock ∧ some k_ ≠ (.slice (some ad911) t889.length co80 : Value).ownBlock ∧ some k_ ≠ (s_.2.1 : Value).ownBlock ∧ some k_ ≠ (s_.2.2 : Value).ownBlock ∧ k_ ≠ gb874 ∧ k_ ≠ g878 ∧ k_ ≠ gb883) (.slice (some ad916) ((rd_T62 t889 0).f2).length c915_2) ((rd_T62 t889 0).f2)) ∧ (Kd.R k80 80 w' w.heap.size (fun k_ => (w.heap.size ≤ k_)) (.slice Ao78 t884.length co78) t884) ∧ (Kd.N k62 62 w' w.heap.size (fun k_ => (w.heap.size ≤ k_) ∧ some k_ ≠ (.slice Ao78 t884.length co78 : Value).ownBlock ∧ some k_ ≠ (s_.2.1 : Value).ownBlock ∧ some k_ ≠ (s_.2.2 : Value).ownBlock ∧ k_ ≠ gb874 ∧ k_ ≠ g878 ∧ k_ ≠ gb883) (.slice (some ad911) t889.length co80) t889) ∧ (Kd.R (Kd.int .i64) 3 w' w.heap.size (fun k_ => (w.heap.size ≤ k_) ∧ some k_ ≠ (s_.2.2 : Value).ownBlock) s_.2.1 y912) ∧ (Kd.R (Kd.int .i64) 3 w' w.heap.size (fun k_ => (w.heap.size ≤ k_) ∧ some k_ ≠ (s_.2.1 : Value).ownBlock) s_.2.2 y917) ∧ (w'.heap[gb874]? = some (.cells #[.int .i64 0, .int .i64 0] 49 (0, 0))) ∧ (w'.heap[gb883]? = some (.cells #[.int .i64 t879, .int .i64 t880] 49 (0, 0))) ∧ (IsS109 w w' g878 t875 t896 t897) ∧ (Below w.heap.size w w')) ?_ ?_
           rotate_left
           ·
            intro hCont
            refine two_ (i := 2) (j := 15) (Ni := some 61) (Nj := some 74) #[true, true, true, true, true, true, true, true, false, true, true, true, true, true, true, false, false, false, false, false] #[true, true, false, true, true, true, true, true, false, true, true, true, true, true, true, true, false, false, false, false] rfl rfl rfl rfl (two_of HT_.out (by kernel_rfl)) (by decide) (by decide) (fun K hK => ?_) (fun K hK => ?_)
            ·
             skip
             refine Kd.R_lit_step (Kd.int .i64) _ 3 ?hg (N := 61) ?hd (xs := ([] : List Int)) (inner := []) (ok := fun _ => True) (okp := fun _ => True) ?hr ?hp (fun _ hk => hk) trivial (Below.refl _ _) (Nat.le_refl _) (by simp) ?_; (case hd => rfl); (case hg => rfl); (case hr => first | (go_simp; done) | (go_simp; rfl)); (case hp => exact (Reps.none _ _))
             intro v909 w84 ho85 hb hg_ hnew_
             have HS0_ := (hb.cell (World.block_lt_of_cell? _ _ (hHeld.1))).trans (hHeld.1)
             have HS1_ := (hb.cell (World.block_lt_of_cell? _ _ (hHeld.2.1))).trans (hHeld.2.1)
             have HS2_ := (hb.cell (World.block_lt_of_cell? _ _ (hHeld.2.2.1))).trans (hHeld.2.2.1)
             have HS3_ := (hb.cell (World.block_lt_of_cell? _ _ (hHeld.2.2.2.1))).trans (hHeld.2.2.2.1)
             have HS4_ := (hb.cell (World.block_lt_of_cell? _ _ (hHeld.2.2.2.2.1))).trans (hHeld.2.2.2.2.1)
             have HS5_ := (hb.cell (World.block_lt_of_cell? _ _ (hHeld.2.2.2.2.2.1))).trans (hHeld.2.2.2.2.2.1)
             have HS6_ := (hb.cell (World.block_lt_of_cell? _ _ (hHeld.2.2.2.2.2.2))).trans (hHeld.2.2.2.2.2.2)
             clear hg_ hnew_
             (first | rw [← Ny908.out] at ho85 | (simp only [Int.reduceToNat] at ho85; rw [← Ny908.out] at ho85))
             have n0_ := Aside0.mk (Kd.R_below zf50_6 hb)
             have n1_ := Aside0.mk (Kd.N_elder' zf50_14 (Kd.R_base ho85) hb)
             have n2_ := Aside0.mk (Kd.V_elder' zf50_28 (Kd.R_base ho85) hb)
             have n3_ := Aside0.mk (Kd.V_elder' zf50_29 (Kd.R_base ho85) hb)
             have n4_ := Aside0.mk (Kd.R_lower (Kd.R_newM (M := fun k_ => (w.heap.size ≤ k_)) ho85 (below_size zf50_0) (fun k_ h_ => h_)) (below_size zf50_0))
             have n5_ := Aside0.mk (blk_below (g := gb874) (o := .cells #[.int .i64 0, .int .i64 0] 49 (0, 0)) zf50_2 hb)
             have n6_ := Aside0.mk (IsS109.below zf50_3 hb)
             have n7_ := Aside0.mk (blk_below (g := gb883) (o := .cells #[.int .i64 t879, .int .i64 t880] 49 (0, 0)) zf50_5 hb)
             have n8_ := Aside0.mk (Kd.C_below zf50_19 hb)
             have n9_ := Aside0.mk (Kd.C_below zf50_21 hb)
             have n10_ := Aside0.mk (below_step zf50_0 hb)
             clear HO886
             clear HO891
             clear HL911_2
             clear HL915_2
             clear BK874
             clear HI878
             clear BK883
             clear HR911_2
             clear HR915_2
             clear HB
             have HO886 := n0_
             have HO891 := n1_
             have HL911_2 := n2_
             have HL915_2 := n3_
             have HO910 := n4_
             have BK874 := n5_
             have HI878 := n6_
             have BK883 := n7_
             have HR911_2 := n8_
             have HR915_2 := n9_
             have HB := n10_
             clear n0_ n1_ n2_ n3_ n4_ n5_ n6_ n7_ n8_ n9_ n10_
             clear hb ho85
             refine hK.out _ _ ⟨HS0_, HS1_, HS2_, HS3_, HS4_, HS5_, HS6_⟩ (fun hHeld => ?_)
             clear hK K
             refine norm_ (a' := ?_) ?_ ?_
             rotate_left
             ·
              show Act.put _ (some 61) _ = _
              simp only [Act.put, List.setIfInBounds_toArray, List.set_cons_zero, List.set_cons_succ, i64_w, i32_w]
              rfl
             refine two_ (i := 8) (j := 15) (Ni := some 67) (Nj := some 74) #[true, true, true, true, true, true, true, true, true, true, true, true, true, true, true, false, false, false, false, false] #[true, true, true, true, true, true, true, true, false, true, true, true, true, true, true, true, false, false, false, false] rfl rfl rfl rfl (two_of HT_.out (by kernel_rfl)) (by decide) (by decide) (fun K hK => ?_) (fun K hK => ?_)
             ·
              skip
              refine Kd.R_append_rows_step (Kd.int .i64) (w0 := w) w.heap.size (by rfl) (.tmp 61) (.tmp 66) 22 3 (.int .i64 0) 8 rfl Try.underlying22 info3 rfl (by decide) (by omega) v909 y908 ((rd_T62 t889 t892).f2) _ _ _ (fun k_ => (w.heap.size ≤ k_)) (fun _ => False) rfl rfl ?aO ?aR (fun _ _ h => h) (fun _ h => h.elim) ?aF ?aB ?aS ?aL ?_
              (case aR => repeat (first | exact zf50_19 | (with_reducible refine Kd.C_alloc ?_ _) | (with_reducible refine Kd.C_drewN ?_ _) | (with_reducible refine Kd.C_drew ?_)))
              (case aB => exact zf50_0)
              (case aF => exact (fun k_ hk => (Nat.le_trans (below_size zf50_0) hk)))
              (case aO => exact (by (with_reducible repeat (first | apply Kd.R_alloc | apply Kd.R_drewN | apply Kd.R_drew)); exact Kd.R_mono HO910.out (fun _ hk => hk.1)))
              (case aS => exact (below_size zf50_0))
              (case aL => have := LMc64.out; omega)
              intro v913 w86 ho hb hg hat
              (first | have HS0_ := cell_grown hg (hHeld.1) zf50_1 | have HS0_ := cell_grown hg (cell_unalloc (hHeld.1) zf50_9) zf50_1)
              (first | have HS1_ := cell_grown hg (hHeld.2.1) zf50_1 | have HS1_ := cell_grown hg (cell_unalloc (hHeld.2.1) zf50_9) zf50_1)
              (first | have HS2_ := cell_grown hg (hHeld.2.2.1) zf50_1 | have HS2_ := cell_grown hg (cell_unalloc (hHeld.2.2.1) zf50_9) zf50_1)
              (first | have HS3_ := cell_grown hg (hHeld.2.2.2.1) zf50_1 | have HS3_ := cell_grown hg (cell_unalloc (hHeld.2.2.2.1) zf50_9) zf50_1)
              (first | have HS4_ := cell_grown hg (hHeld.2.2.2.2.1) zf50_1 | have HS4_ := cell_grown hg (cell_unalloc (hHeld.2.2.2.2.1) zf50_9) zf50_1)
              (first | have HS5_ := cell_grown hg (hHeld.2.2.2.2.2.1) zf50_1 | have HS5_ := cell_grown hg (cell_unalloc (hHeld.2.2.2.2.2.1) zf50_9) zf50_1)
              rw [← Ny912.out] at ho
              have n0_ := Aside0.mk (blk_grown (g := gb874) (o := .cells #[.int .i64 0, .int .i64 0] 49 (0, 0)) zf50_2 hg (Kd.R_ne HO910.out BK874.out (by decide)))
              have n1_ := Aside0.mk (IsS109.grown zf50_3 hg (IsS109.own_ne HI878.out HO910.out (by decide)))
              have n2_ := Aside0.mk (blk_grown (g := gb883) (o := .cells #[.int .i64 t879, .int .i64 t880] 49 (0, 0)) zf50_5 hg (Kd.R_ne HO910.out BK883.out (by decide)))
              have n3_ := Aside0.mk (Kd.R_over' zf50_6 (Kd.R_typed zf50_30) (by decide) hg)
              have n4_ := Aside0.mk (Kd.N_afterv (ok := (fun k_ => (w.heap.size ≤ k_) ∧ some k_ ≠ (.slice Ao78 t884.length co78 : Value).ownBlock ∧ k_ ≠ gb874 ∧ k_ ≠ gb883 ∧ k_ ≠ g878)) zf50_14 hg hat)
              have n5_ := Aside0.mk (Kd.V_afterv (ok := (fun k_ => (w.heap.size ≤ k_) ∧ some k_ ≠ (.slice Ao78 t884.length co78 : Value).ownBlock ∧ some k_ ≠ (.slice (some ad911) t889.length co80 : Value).ownBlock ∧ k_ ≠ gb874 ∧ k_ ≠ gb883 ∧ k_ ≠ g878)) (by (with_reducible repeat (first | apply Kd.V_alloc | apply Kd.V_drewN | apply Kd.V_drew)); exact Kd.V_mono HL911_2.out (fun _ hk => ⟨⟨hk.1.1.1, ⟨hk.1.1.2.1, ⟨hk.1.2, ⟨hk.1.1.2.2.1, ⟨hk.1.1.2.2.2.1, hk.1.1.2.2.2.2⟩⟩⟩⟩⟩, hk.2⟩)) hg hat)
              have n6_ := Aside0.mk (Kd.V_afterv (ok := (fun k_ => (w.heap.size ≤ k_) ∧ some k_ ≠ (.slice Ao78 t884.length co78 : Value).ownBlock ∧ some k_ ≠ (.slice (some ad911) t889.length co80 : Value).ownBlock ∧ k_ ≠ gb874 ∧ k_ ≠ gb883 ∧ k_ ≠ g878)) (by (with_reducible repeat (first | apply Kd.V_alloc | apply Kd.V_drewN | apply Kd.V_drew)); exact Kd.V_mono HL915_2.out (fun _ hk => ⟨⟨hk.1.1.1, ⟨hk.1.1.2.1, ⟨hk.1.2, ⟨hk.1.1.2.2.1, ⟨hk.1.1.2.2.2.1, hk.1.1.2.2.2.2⟩⟩⟩⟩⟩, hk.2⟩)) hg hat)
              have n7_ := Aside0.mk (hb)
              have n8_ := Aside0.mk (ho)
              clear BK874
              clear HI878
              clear BK883
              clear HO886
              clear HO891
              clear HL911_2
              clear HL915_2
              clear HB
              clear HO910
              have BK874 := n0_
              have HI878 := n1_
              have BK883 := n2_
              have HO886 := n3_
              have HO891 := n4_
              have HL911_2 := n5_
              have HL915_2 := n6_
              have HB := n7_
              have HO914 := n8_
              clear n0_ n1_ n2_ n3_ n4_ n5_ n6_ n7_ n8_
              clear ho hb hg hat
              obtain ⟨ax_, ex_, HS6_⟩ := Kd.at_int (Kd.V_reads' HL915_2.out).2.2 (0) (of_eq_true p916) (of_eq_true q916)
              obtain rfl : ad916 = ax_ := (by injection ex_)
              (try rw [show ((0 : Int)).toNat = 0 from rfl] at HS6_)
              (try rw [Addr.add_zero'] at HS6_)
              refine hK.out _ _ ⟨HS0_, HS1_, HS2_, HS3_, HS4_, HS5_, HS6_⟩ (fun hHeld => ?_)
              clear hK K
              refine norm_ (a' := ?_) ?_ ?_
              rotate_left
              ·
               show Act.put _ (some 67) _ = _
               simp only [Act.put, List.setIfInBounds_toArray, List.set_cons_zero, List.set_cons_succ, i64_w, i32_w]
               rfl
              refine one_ (i := 15) (N := some 74) #[true, true, true, true, true, true, true, true, true, true, true, true, true, true, true, true, false, false, false, false] rfl rfl (one_of HT_.out (by kernel_rfl)) (by decide) (fun K hK => ?_)
              refine Kd.R_lit_step (Kd.int .i64) _ 3 ?hg (N := 74) ?hd (xs := ([rd ((rd_T62 t889 0).f2) 0] : List Int)) (inner := [.int .i64 (rd ((rd_T62 t889 0).f2) 0)]) (ok := fun _ => True) (okp := fun _ => True) ?hr ?hp (fun _ hk => hk) trivial (Below.refl _ _) (Nat.le_refl _) (by simp) ?_; (case hd => rfl); (case hg => rfl); (case hr => first | (go_simp; done) | (go_simp; rfl)); (case hp => exact (Reps.one (show Kd.M (Kd.int .i64) _ _ _ (rd ((rd_T62 t889 0).f2) 0) [.int .i64 (rd ((rd_T62 t889 0).f2) 0)] from rfl) (Reps.none _ _)))
              intro v918 w87 ho88 hb hg_ hnew_
              have HS0_ := (hb.cell (World.block_lt_of_cell? _ _ (hHeld.1))).trans (hHeld.1)
              have HS1_ := (hb.cell (World.block_lt_of_cell? _ _ (hHeld.2.1))).trans (hHeld.2.1)
              have HS2_ := (hb.cell (World.block_lt_of_cell? _ _ (hHeld.2.2.1))).trans (hHeld.2.2.1)
              have HS3_ := (hb.cell (World.block_lt_of_cell? _ _ (hHeld.2.2.2.1))).trans (hHeld.2.2.2.1)
              have HS4_ := (hb.cell (World.block_lt_of_cell? _ _ (hHeld.2.2.2.2.1))).trans (hHeld.2.2.2.2.1)
              have HS5_ := (hb.cell (World.block_lt_of_cell? _ _ (hHeld.2.2.2.2.2.1))).trans (hHeld.2.2.2.2.2.1)
              have HS6_ := (hb.cell (World.block_lt_of_cell? _ _ (hHeld.2.2.2.2.2.2))).trans (hHeld.2.2.2.2.2.2)
              clear hg_ hnew_
              (first | rw [← Ny917.out] at ho88 | (simp only [Int.reduceToNat] at ho88; rw [← Ny917.out] at ho88))
              have n0_ := Aside0.mk (Kd.R_below zf50_6 hb)
              have n1_ := Aside0.mk (Kd.N_elder' zf50_14 (Kd.R_base ho88) hb)
              have n2_ := Aside0.mk (Kd.V_elder' zf50_28 (Kd.R_base ho88) hb)
              have n3_ := Aside0.mk (Kd.V_elder' zf50_29 (Kd.R_base ho88) hb)
              have n4_ := Aside0.mk (Kd.R_elder' zf50_25 (Kd.R_base ho88) hb)
              have n5_ := Aside0.mk (Kd.R_lower (Kd.R_new' (Kd.R_newM (M := fun k_ => (w.heap.size ≤ k_)) ho88 (below_size zf50_0) (fun k_ h_ => h_)) (Kd.R_lt zf50_25)) (below_size zf50_0))
              have n6_ := Aside0.mk (blk_below (g := gb874) (o := .cells #[.int .i64 0, .int .i64 0] 49 (0, 0)) zf50_2 hb)
              have n7_ := Aside0.mk (IsS109.below zf50_3 hb)
              have n8_ := Aside0.mk (blk_below (g := gb883) (o := .cells #[.int .i64 t879, .int .i64 t880] 49 (0, 0)) zf50_5 hb)
              have n9_ := Aside0.mk (below_step zf50_0 hb)
              clear HO886
              clear HO891
              clear HL911_2
              clear HL915_2
              clear HO914
              clear BK874
              clear HI878
              clear BK883
              clear HB
              have HO886 := n0_
              have HO891 := n1_
              have HL911_2 := n2_
              have HL915_2 := n3_
              have HO914 := n4_
              have HO919 := n5_
              have BK874 := n6_
              have HI878 := n7_
              have BK883 := n8_
              have HB := n9_
              clear n0_ n1_ n2_ n3_ n4_ n5_ n6_ n7_ n8_ n9_
              clear hb ho88
              refine hK.out _ _ ⟨HS0_, HS1_, HS2_, HS3_, HS4_, HS5_, HS6_⟩ (fun hHeld => ?_)
              clear hK K
              refine norm_ (a' := ?_) ?_ ?_
              rotate_left
              ·
               show Act.put _ (some 74) _ = _
               simp only [Act.put, List.setIfInBounds_toArray, List.set_cons_zero, List.set_cons_succ, i64_w, i32_w]
               rfl
              exact norm_ zf50_36 (hCont (v909, v913, v918) _ ⟨hHeld, (by (with_reducible repeat (first | apply Kd.V_alloc | apply Kd.V_drewN | apply Kd.V_drew)); exact Kd.V_mono HL911_2.out (fun _ hk => ⟨hk.1.1.1, ⟨hk.1.1.2.1, ⟨hk.1.1.2.2.1, ⟨hk.1.2, ⟨hk.2, ⟨hk.1.1.2.2.2.1, ⟨hk.1.1.2.2.2.2.2, hk.1.1.2.2.2.2.1⟩⟩⟩⟩⟩⟩⟩)), (by (with_reducible repeat (first | apply Kd.V_alloc | apply Kd.V_drewN | apply Kd.V_drew)); exact Kd.V_mono HL915_2.out (fun _ hk => ⟨hk.1.1.1, ⟨hk.1.1.2.1, ⟨hk.1.1.2.2.1, ⟨hk.1.2, ⟨hk.2, ⟨hk.1.1.2.2.2.1, ⟨hk.1.1.2.2.2.2.2, hk.1.1.2.2.2.2.1⟩⟩⟩⟩⟩⟩⟩)), zf50_34, (by (with_reducible repeat (first | apply Kd.N_alloc | apply Kd.N_drewN | apply Kd.N_drew)); exact Kd.N_mono HO891.out (fun _ hk => ⟨hk.1.1.1, ⟨hk.1.1.2.1, ⟨hk.1.2, ⟨hk.2, ⟨hk.1.1.2.2.1, ⟨hk.1.1.2.2.2.2, hk.1.1.2.2.2.1⟩⟩⟩⟩⟩⟩)), zf50_25, zf50_31, zf50_2, zf50_5, zf50_3, zf50_0⟩)
             ·
              skip
              refine Kd.R_lit_step (Kd.int .i64) _ 3 ?hg (N := 74) ?hd (xs := ([rd ((rd_T62 t889 0).f2) 0] : List Int)) (inner := [.int .i64 (rd ((rd_T62 t889 0).f2) 0)]) (ok := fun _ => True) (okp := fun _ => True) ?hr ?hp (fun _ hk => hk) trivial (Below.refl _ _) (Nat.le_refl _) (by simp) ?_; (case hd => rfl); (case hg => rfl); (case hr => first | (go_simp; done) | (go_simp; rfl)); (case hp => exact (Reps.one (show Kd.M (Kd.int .i64) _ _ _ (rd ((rd_T62 t889 0).f2) 0) [.int .i64 (rd ((rd_T62 t889 0).f2) 0)] from rfl) (Reps.none _ _)))
              intro v918 w86 ho87 hb hg_ hnew_
              have HS0_ := (hb.cell (World.block_lt_of_cell? _ _ (hHeld.1))).trans (hHeld.1)
              have HS1_ := (hb.cell (World.block_lt_of_cell? _ _ (hHeld.2.1))).trans (hHeld.2.1)
              have HS2_ := (hb.cell (World.block_lt_of_cell? _ _ (hHeld.2.2.1))).trans (hHeld.2.2.1)
              have HS3_ := (hb.cell (World.block_lt_of_cell? _ _ (hHeld.2.2.2.1))).trans (hHeld.2.2.2.1)
              have HS4_ := (hb.cell (World.block_lt_of_cell? _ _ (hHeld.2.2.2.2.1))).trans (hHeld.2.2.2.2.1)
              have HS5_ := (hb.cell (World.block_lt_of_cell? _ _ (hHeld.2.2.2.2.2.1))).trans (hHeld.2.2.2.2.2.1)
              have HS6_ := (hb.cell (World.block_lt_of_cell? _ _ (hHeld.2.2.2.2.2.2))).trans (hHeld.2.2.2.2.2.2)
              clear hg_ hnew_
              (first | rw [← Ny917.out] at ho87 | (simp only [Int.reduceToNat] at ho87; rw [← Ny917.out] at ho87))
              have n0_ := Aside0.mk (Kd.R_below zf50_6 hb)
              have n1_ := Aside0.mk (Kd.N_elder' zf50_14 (Kd.R_base ho87) hb)
              have n2_ := Aside0.mk (Kd.V_elder' zf50_28 (Kd.R_base ho87) hb)
              have n3_ := Aside0.mk (Kd.V_elder' zf50_29 (Kd.R_base ho87) hb)
              have n4_ := Aside0.mk (Kd.R_elder' zf50_30 (Kd.R_base ho87) hb)
              have n5_ := Aside0.mk (Kd.R_lower (Kd.R_new' (Kd.R_newM (M := fun k_ => (w.heap.size ≤ k_)) ho87 (below_size zf50_0) (fun k_ h_ => h_)) (Kd.R_lt zf50_30)) (below_size zf50_0))
              have n6_ := Aside0.mk (blk_below (g := gb874) (o := .cells #[.int .i64 0, .int .i64 0] 49 (0, 0)) zf50_2 hb)
              have n7_ := Aside0.mk (IsS109.below zf50_3 hb)
              have n8_ := Aside0.mk (blk_below (g := gb883) (o := .cells #[.int .i64 t879, .int .i64 t880] 49 (0, 0)) zf50_5 hb)
              have n9_ := Aside0.mk (Kd.C_below zf50_19 hb)
              have n10_ := Aside0.mk (Kd.C_below zf50_21 hb)
              have n11_ := Aside0.mk (below_step zf50_0 hb)
              clear HO886
              clear HO891
              clear HL911_2
              clear HL915_2
              clear HO910
              clear BK874
              clear HI878
              clear BK883
              clear HR911_2
              clear HR915_2
              clear HB
              have HO886 := n0_
              have HO891 := n1_
              have HL911_2 := n2_
              have HL915_2 := n3_
              have HO910 := n4_
              have HO919 := n5_
              have BK874 := n6_
              have HI878 := n7_
              have BK883 := n8_
              have HR911_2 := n9_
              have HR915_2 := n10_
              have HB := n11_
              clear n0_ n1_ n2_ n3_ n4_ n5_ n6_ n7_ n8_ n9_ n10_ n11_
              clear hb ho87
              refine hK.out _ _ ⟨HS0_, HS1_, HS2_, HS3_, HS4_, HS5_, HS6_⟩ (fun hHeld => ?_)
              clear hK K
              refine norm_ (a' := ?_) ?_ ?_
              rotate_left
              ·
               show Act.put _ (some 74) _ = _
               simp only [Act.put, List.setIfInBounds_toArray, List.set_cons_zero, List.set_cons_succ, i64_w, i32_w]
               rfl
              refine one_ (i := 8) (N := some 67) #[true, true, true, true, true, true, true, true, true, true, true, true, true, true, true, true, false, false, false, false] rfl rfl (one_of HT_.out (by kernel_rfl)) (by decide) (fun K hK => ?_)
              refine Kd.R_append_rows_step (Kd.int .i64) (w0 := w) w.heap.size (by rfl) (.tmp 61) (.tmp 66) 22 3 (.int .i64 0) 8 rfl Try.underlying22 info3 rfl (by decide) (by omega) v909 y908 ((rd_T62 t889 t892).f2) _ _ _ (fun k_ => (w.heap.size ≤ k_) ∧ some k_ ≠ (v918 : Value).ownBlock) (fun _ => False) rfl rfl ?aO ?aR (fun _ _ h => h) (fun _ h => h.elim) ?aF ?aB ?aS ?aL ?_
              (case aR => repeat (first | exact zf50_19 | (with_reducible refine Kd.C_alloc ?_ _) | (with_reducible refine Kd.C_drewN ?_ _) | (with_reducible refine Kd.C_drew ?_)))
              (case aB => exact zf50_0)
              (case aF => exact (fun k_ hk => ⟨(Nat.le_trans (below_size zf50_0) hk), Kd.fresh' (Kd.R_lt zf50_24) k_ hk⟩))
              (case aO => exact zf50_37)
              (case aS => exact (below_size zf50_0))
              (case aL => have := LMc64.out; omega)
              intro v913 w88 ho hb hg hat
              (first | have HS0_ := cell_grown hg (hHeld.1) zf50_1 | have HS0_ := cell_grown hg (cell_unalloc (hHeld.1) zf50_9) zf50_1)
              (first | have HS1_ := cell_grown hg (hHeld.2.1) zf50_1 | have HS1_ := cell_grown hg (cell_unalloc (hHeld.2.1) zf50_9) zf50_1)
              (first | have HS2_ := cell_grown hg (hHeld.2.2.1) zf50_1 | have HS2_ := cell_grown hg (cell_unalloc (hHeld.2.2.1) zf50_9) zf50_1)
              (first | have HS3_ := cell_grown hg (hHeld.2.2.2.1) zf50_1 | have HS3_ := cell_grown hg (cell_unalloc (hHeld.2.2.2.1) zf50_9) zf50_1)
              (first | have HS4_ := cell_grown hg (hHeld.2.2.2.2.1) zf50_1 | have HS4_ := cell_grown hg (cell_unalloc (hHeld.2.2.2.2.1) zf50_9) zf50_1)
              (first | have HS5_ := cell_grown hg (hHeld.2.2.2.2.2.1) zf50_1 | have HS5_ := cell_grown hg (cell_unalloc (hHeld.2.2.2.2.2.1) zf50_9) zf50_1)
              rw [← Ny912.out] at ho
              have n0_ := Aside0.mk (blk_grown (g := gb874) (o := .cells #[.int .i64 0, .int .i64 0] 49 (0, 0)) zf50_2 hg (Kd.R_ne HO910.out BK874.out (by decide)))
              have n1_ := Aside0.mk (IsS109.grown zf50_3 hg (IsS109.own_ne HI878.out HO910.out (by decide)))
              have n2_ := Aside0.mk (blk_grown (g := gb883) (o := .cells #[.int .i64 t879, .int .i64 t880] 49 (0, 0)) zf50_5 hg (Kd.R_ne HO910.out BK883.out (by decide)))
              have n3_ := Aside0.mk (Kd.R_over' zf50_6 (Kd.R_typed zf50_30) (by decide) hg)
              have n4_ := Aside0.mk (Kd.N_afterv (ok := (fun k_ => (w.heap.size ≤ k_) ∧ some k_ ≠ (.slice Ao78 t884.length co78 : Value).ownBlock ∧ some k_ ≠ (v918 : Value).ownBlock ∧ k_ ≠ gb874 ∧ k_ ≠ gb883 ∧ k_ ≠ g878)) (by (with_reducible repeat (first | apply Kd.N_alloc | apply Kd.N_drewN | apply Kd.N_drew)); exact Kd.N_mono HO891.out (fun _ hk => ⟨⟨hk.1.1.1, ⟨hk.1.1.2.1, ⟨hk.2, ⟨hk.1.1.2.2.1, ⟨hk.1.1.2.2.2.1, hk.1.1.2.2.2.2⟩⟩⟩⟩⟩, hk.1.2⟩)) hg hat)
              have n5_ := Aside0.mk (Kd.V_afterv (ok := (fun k_ => (w.heap.size ≤ k_) ∧ some k_ ≠ (.slice Ao78 t884.length co78 : Value).ownBlock ∧ some k_ ≠ (.slice (some ad911) t889.length co80 : Value).ownBlock ∧ some k_ ≠ (v918 : Value).ownBlock ∧ k_ ≠ gb874 ∧ k_ ≠ gb883 ∧ k_ ≠ g878)) (by (with_reducible repeat (first | apply Kd.V_alloc | apply Kd.V_drewN | apply Kd.V_drew)); exact Kd.V_mono HL911_2.out (fun _ hk => ⟨⟨hk.1.1.1.1, ⟨hk.1.1.1.2.1, ⟨hk.1.1.2, ⟨hk.2, ⟨hk.1.1.1.2.2.1, ⟨hk.1.1.1.2.2.2.1, hk.1.1.1.2.2.2.2⟩⟩⟩⟩⟩⟩, hk.1.2⟩)) hg hat)
              have n6_ := Aside0.mk (Kd.V_afterv (ok := (fun k_ => (w.heap.size ≤ k_) ∧ some k_ ≠ (.slice Ao78 t884.length co78 : Value).ownBlock ∧ some k_ ≠ (.slice (some ad911) t889.length co80 : Value).ownBlock ∧ some k_ ≠ (v918 : Value).ownBlock ∧ k_ ≠ gb874 ∧ k_ ≠ gb883 ∧ k_ ≠ g878)) (by (with_reducible repeat (first | apply Kd.V_alloc | apply Kd.V_drewN | apply Kd.V_drew)); exact Kd.V_mono HL915_2.out (fun _ hk => ⟨⟨hk.1.1.1.1, ⟨hk.1.1.1.2.1, ⟨hk.1.1.2, ⟨hk.2, ⟨hk.1.1.1.2.2.1, ⟨hk.1.1.1.2.2.2.1, hk.1.1.1.2.2.2.2⟩⟩⟩⟩⟩⟩, hk.1.2⟩)) hg hat)
              have n7_ := Aside0.mk (Kd.R_after (ok := (fun k_ => (w.heap.size ≤ k_))) zf50_31 hg hat)
              have n8_ := Aside0.mk (hb)
              have n9_ := Aside0.mk (ho)
              clear BK874
              clear HI878
              clear BK883
              clear HO886
              clear HO891
              clear HL911_2
              clear HL915_2
              clear HO919
              clear HB
              clear HO910
              have BK874 := n0_
              have HI878 := n1_
              have BK883 := n2_
              have HO886 := n3_
              have HO891 := n4_
              have HL911_2 := n5_
              have HL915_2 := n6_
              have HO919 := n7_
              have HB := n8_
              have HO914 := n9_
              clear n0_ n1_ n2_ n3_ n4_ n5_ n6_ n7_ n8_ n9_
              clear ho hb hg hat
              obtain ⟨ax_, ex_, HS6_⟩ := Kd.at_int (Kd.V_reads' HL915_2.out).2.2 (0) (of_eq_true p916) (of_eq_true q916)
              obtain rfl : ad916 = ax_ := (by injection ex_)
              (try rw [show ((0 : Int)).toNat = 0 from rfl] at HS6_)
              (try rw [Addr.add_zero'] at HS6_)
              refine hK.out _ _ ⟨HS0_, HS1_, HS2_, HS3_, HS4_, HS5_, HS6_⟩ (fun hHeld => ?_)
              clear hK K
              refine norm_ (a' := ?_) ?_ ?_
              rotate_left
              ·
               show Act.put _ (some 67) _ = _
               simp only [Act.put, List.setIfInBounds_toArray, List.set_cons_zero, List.set_cons_succ, i64_w, i32_w]
               rfl
              exact norm_ zf50_36 (hCont (v909, v913, v918) _ ⟨hHeld, zf50_32, zf50_33, zf50_34, zf50_35, zf50_25, zf50_24, zf50_2, zf50_5, zf50_3, zf50_0⟩)
            ·
             skip
             refine Kd.R_lit_step (Kd.int .i64) _ 3 ?hg (N := 74) ?hd (xs := ([rd ((rd_T62 t889 0).f2) 0] : List Int)) (inner := [.int .i64 (rd ((rd_T62 t889 0).f2) 0)]) (ok := fun _ => True) (okp := fun _ => True) ?hr ?hp (fun _ hk => hk) trivial (Below.refl _ _) (Nat.le_refl _) (by simp) ?_; (case hd => rfl); (case hg => rfl); (case hr => first | (go_simp; done) | (go_simp; rfl)); (case hp => exact (Reps.one (show Kd.M (Kd.int .i64) _ _ _ (rd ((rd_T62 t889 0).f2) 0) [.int .i64 (rd ((rd_T62 t889 0).f2) 0)] from rfl) (Reps.none _ _)))
             intro v918 w84 ho85 hb hg_ hnew_
             have HS0_ := (hb.cell (World.block_lt_of_cell? _ _ (hHeld.1))).trans (hHeld.1)
             have HS1_ := (hb.cell (World.block_lt_of_cell? _ _ (hHeld.2.1))).trans (hHeld.2.1)
             have HS2_ := (hb.cell (World.block_lt_of_cell? _ _ (hHeld.2.2.1))).trans (hHeld.2.2.1)
             have HS3_ := (hb.cell (World.block_lt_of_cell? _ _ (hHeld.2.2.2.1))).trans (hHeld.2.2.2.1)
             have HS4_ := (hb.cell (World.block_lt_of_cell? _ _ (hHeld.2.2.2.2.1))).trans (hHeld.2.2.2.2.1)
             have HS5_ := (hb.cell (World.block_lt_of_cell? _ _ (hHeld.2.2.2.2.2.1))).trans (hHeld.2.2.2.2.2.1)
             have HS6_ := (hb.cell (World.block_lt_of_cell? _ _ (hHeld.2.2.2.2.2.2))).trans (hHeld.2.2.2.2.2.2)
             clear hg_ hnew_
             (first | rw [← Ny917.out] at ho85 | (simp only [Int.reduceToNat] at ho85; rw [← Ny917.out] at ho85))
             have n0_ := Aside0.mk (Kd.R_below zf50_6 hb)
             have n1_ := Aside0.mk (Kd.N_elder' zf50_14 (Kd.R_base ho85) hb)
             have n2_ := Aside0.mk (Kd.V_elder' zf50_28 (Kd.R_base ho85) hb)
             have n3_ := Aside0.mk (Kd.V_elder' zf50_29 (Kd.R_base ho85) hb)
             have n4_ := Aside0.mk (Kd.R_lower (Kd.R_newM (M := fun k_ => (w.heap.size ≤ k_)) ho85 (below_size zf50_0) (fun k_ h_ => h_)) (below_size zf50_0))
             have n5_ := Aside0.mk (blk_below (g := gb874) (o := .cells #[.int .i64 0, .int .i64 0] 49 (0, 0)) zf50_2 hb)
             have n6_ := Aside0.mk (IsS109.below zf50_3 hb)
             have n7_ := Aside0.mk (blk_below (g := gb883) (o := .cells #[.int .i64 t879, .int .i64 t880] 49 (0, 0)) zf50_5 hb)
             have n8_ := Aside0.mk (Kd.C_below zf50_19 hb)
             have n9_ := Aside0.mk (Kd.C_below zf50_21 hb)
             have n10_ := Aside0.mk (below_step zf50_0 hb)
             clear HO886
             clear HO891
             clear HL911_2
             clear HL915_2
             clear BK874
             clear HI878
             clear BK883
             clear HR911_2
             clear HR915_2
             clear HB
             have HO886 := n0_
             have HO891 := n1_
             have HL911_2 := n2_
             have HL915_2 := n3_
             have HO919 := n4_
             have BK874 := n5_
             have HI878 := n6_
             have BK883 := n7_
             have HR911_2 := n8_
             have HR915_2 := n9_
             have HB := n10_
             clear n0_ n1_ n2_ n3_ n4_ n5_ n6_ n7_ n8_ n9_ n10_
             clear hb ho85
             refine hK.out _ _ ⟨HS0_, HS1_, HS2_, HS3_, HS4_, HS5_, HS6_⟩ (fun hHeld => ?_)
             clear hK K
             refine norm_ (a' := ?_) ?_ ?_
             rotate_left
             ·
              show Act.put _ (some 74) _ = _
              simp only [Act.put, List.setIfInBounds_toArray, List.set_cons_zero, List.set_cons_succ, i64_w, i32_w]
              rfl
             refine one_ (i := 2) (N := some 61) #[true, true, true, true, true, true, true, true, false, true, true, true, true, true, true, true, false, false, false, false] rfl rfl (one_of HT_.out (by kernel_rfl)) (by decide) (fun K hK => ?_)
             refine Kd.R_lit_step (Kd.int .i64) _ 3 ?hg (N := 61) ?hd (xs := ([] : List Int)) (inner := []) (ok := fun _ => True) (okp := fun _ => True) ?hr ?hp (fun _ hk => hk) trivial (Below.refl _ _) (Nat.le_refl _) (by simp) ?_; (case hd => rfl); (case hg => rfl); (case hr => first | (go_simp; done) | (go_simp; rfl)); (case hp => exact (Reps.none _ _))
             intro v909 w86 ho87 hb hg_ hnew_
             have HS0_ := (hb.cell (World.block_lt_of_cell? _ _ (hHeld.1))).trans (hHeld.1)
             have HS1_ := (hb.cell (World.block_lt_of_cell? _ _ (hHeld.2.1))).trans (hHeld.2.1)
             have HS2_ := (hb.cell (World.block_lt_of_cell? _ _ (hHeld.2.2.1))).trans (hHeld.2.2.1)
             have HS3_ := (hb.cell (World.block_lt_of_cell? _ _ (hHeld.2.2.2.1))).trans (hHeld.2.2.2.1)
             have HS4_ := (hb.cell (World.block_lt_of_cell? _ _ (hHeld.2.2.2.2.1))).trans (hHeld.2.2.2.2.1)
             have HS5_ := (hb.cell (World.block_lt_of_cell? _ _ (hHeld.2.2.2.2.2.1))).trans (hHeld.2.2.2.2.2.1)
             have HS6_ := (hb.cell (World.block_lt_of_cell? _ _ (hHeld.2.2.2.2.2.2))).trans (hHeld.2.2.2.2.2.2)
             clear hg_ hnew_
             (first | rw [← Ny908.out] at ho87 | (simp only [Int.reduceToNat] at ho87; rw [← Ny908.out] at ho87))
             have n0_ := Aside0.mk (Kd.R_below zf50_6 hb)
             have n1_ := Aside0.mk (Kd.N_elder' zf50_14 (Kd.R_base ho87) hb)
             have n2_ := Aside0.mk (Kd.V_elder' zf50_28 (Kd.R_base ho87) hb)
             have n3_ := Aside0.mk (Kd.V_elder' zf50_29 (Kd.R_base ho87) hb)
             have n4_ := Aside0.mk (Kd.R_elder' zf50_24 (Kd.R_base ho87) hb)
             have n5_ := Aside0.mk (Kd.R_lower (Kd.R_new' (Kd.R_newM (M := fun k_ => (w.heap.size ≤ k_)) ho87 (below_size zf50_0) (fun k_ h_ => h_)) (Kd.R_lt zf50_24)) (below_size zf50_0))
             have n6_ := Aside0.mk (blk_below (g := gb874) (o := .cells #[.int .i64 0, .int .i64 0] 49 (0, 0)) zf50_2 hb)
             have n7_ := Aside0.mk (IsS109.below zf50_3 hb)
             have n8_ := Aside0.mk (blk_below (g := gb883) (o := .cells #[.int .i64 t879, .int .i64 t880] 49 (0, 0)) zf50_5 hb)
             have n9_ := Aside0.mk (Kd.C_below zf50_19 hb)
             have n10_ := Aside0.mk (Kd.C_below zf50_21 hb)
             have n11_ := Aside0.mk (below_step zf50_0 hb)
             clear HO886
             clear HO891
             clear HL911_2
             clear HL915_2
             clear HO919
             clear BK874
             clear HI878
             clear BK883
             clear HR911_2
             clear HR915_2
             clear HB
             have HO886 := n0_
             have HO891 := n1_
             have HL911_2 := n2_
             have HL915_2 := n3_
             have HO919 := n4_
             have HO910 := n5_
             have BK874 := n6_
             have HI878 := n7_
             have BK883 := n8_
             have HR911_2 := n9_
             have HR915_2 := n10_
             have HB := n11_
             clear n0_ n1_ n2_ n3_ n4_ n5_ n6_ n7_ n8_ n9_ n10_ n11_
             clear hb ho87
             refine hK.out _ _ ⟨HS0_, HS1_, HS2_, HS3_, HS4_, HS5_, HS6_⟩ (fun hHeld => ?_)
             clear hK K
             refine norm_ (a' := ?_) ?_ ?_
             rotate_left
             ·
              show Act.put _ (some 61) _ = _
              simp only [Act.put, List.setIfInBounds_toArray, List.set_cons_zero, List.set_cons_succ, i64_w, i32_w]
              rfl
             refine one_ (i := 8) (N := some 67) #[true, true, true, true, true, true, true, true, true, true, true, true, true, true, true, true, false, false, false, false] rfl rfl (one_of HT_.out (by kernel_rfl)) (by decide) (fun K hK => ?_)
             refine Kd.R_append_rows_step (Kd.int .i64) (w0 := w) w.heap.size (by rfl) (.tmp 61) (.tmp 66) 22 3 (.int .i64 0) 8 rfl Try.underlying22 info3 rfl (by decide) (by omega) v909 y908 ((rd_T62 t889 t892).f2) _ _ _ (fun k_ => (w.heap.size ≤ k_) ∧ some k_ ≠ (v918 : Value).ownBlock) (fun _ => False) rfl rfl ?aO ?aR (fun _ _ h => h) (fun _ h => h.elim) ?aF ?aB ?aS ?aL ?_
             (case aR => repeat (first | exact zf50_19 | (with_reducible refine Kd.C_alloc ?_ _) | (with_reducible refine Kd.C_drewN ?_ _) | (with_reducible refine Kd.C_drew ?_)))
             (case aB => exact zf50_0)
             (case aF => exact (fun k_ hk => ⟨(Nat.le_trans (below_size zf50_0) hk), Kd.fresh' (Kd.R_lt zf50_24) k_ hk⟩))
             (case aO => exact zf50_37)
             (case aS => exact (below_size zf50_0))
             (case aL => have := LMc64.out; omega)
             intro v913 w88 ho hb hg hat
             (first | have HS0_ := cell_grown hg (hHeld.1) zf50_1 | have HS0_ := cell_grown hg (cell_unalloc (hHeld.1) zf50_9) zf50_1)
             (first | have HS1_ := cell_grown hg (hHeld.2.1) zf50_1 | have HS1_ := cell_grown hg (cell_unalloc (hHeld.2.1) zf50_9) zf50_1)
             (first | have HS2_ := cell_grown hg (hHeld.2.2.1) zf50_1 | have HS2_ := cell_grown hg (cell_unalloc (hHeld.2.2.1) zf50_9) zf50_1)
             (first | have HS3_ := cell_grown hg (hHeld.2.2.2.1) zf50_1 | have HS3_ := cell_grown hg (cell_unalloc (hHeld.2.2.2.1) zf50_9) zf50_1)
             (first | have HS4_ := cell_grown hg (hHeld.2.2.2.2.1) zf50_1 | have HS4_ := cell_grown hg (cell_unalloc (hHeld.2.2.2.2.1) zf50_9) zf50_1)
             (first | have HS5_ := cell_grown hg (hHeld.2.2.2.2.2.1) zf50_1 | have HS5_ := cell_grown hg (cell_unalloc (hHeld.2.2.2.2.2.1) zf50_9) zf50_1)
             rw [← Ny912.out] at ho
             have n0_ := Aside0.mk (blk_grown (g := gb874) (o := .cells #[.int .i64 0, .int .i64 0] 49 (0, 0)) zf50_2 hg (Kd.R_ne HO910.out BK874.out (by decide)))
             have n1_ := Aside0.mk (IsS109.grown zf50_3 hg (IsS109.own_ne HI878.out HO910.out (by decide)))
             have n2_ := Aside0.mk (blk_grown (g := gb883) (o := .cells #[.int .i64 t879, .int .i64 t880] 49 (0, 0)) zf50_5 hg (Kd.R_ne HO910.out BK883.out (by decide)))
             have n3_ := Aside0.mk (Kd.R_over' zf50_6 (Kd.R_typed zf50_30) (by decide) hg)
             have n4_ := Aside0.mk (Kd.N_afterv (ok := (fun k_ => (w.heap.size ≤ k_) ∧ some k_ ≠ (.slice Ao78 t884.length co78 : Value).ownBlock ∧ some k_ ≠ (v918 : Value).ownBlock ∧ k_ ≠ gb874 ∧ k_ ≠ gb883 ∧ k_ ≠ g878)) (by (with_reducible repeat (first | apply Kd.N_alloc | apply Kd.N_drewN | apply Kd.N_drew)); exact Kd.N_mono HO891.out (fun _ hk => ⟨⟨hk.1.1.1, ⟨hk.1.1.2.1, ⟨hk.1.2, ⟨hk.1.1.2.2.1, ⟨hk.1.1.2.2.2.1, hk.1.1.2.2.2.2⟩⟩⟩⟩⟩, hk.2⟩)) hg hat)
             have n5_ := Aside0.mk (Kd.V_afterv (ok := (fun k_ => (w.heap.size ≤ k_) ∧ some k_ ≠ (.slice Ao78 t884.length co78 : Value).ownBlock ∧ some k_ ≠ (.slice (some ad911) t889.length co80 : Value).ownBlock ∧ some k_ ≠ (v918 : Value).ownBlock ∧ k_ ≠ gb874 ∧ k_ ≠ gb883 ∧ k_ ≠ g878)) (by (with_reducible repeat (first | apply Kd.V_alloc | apply Kd.V_drewN | apply Kd.V_drew)); exact Kd.V_mono HL911_2.out (fun _ hk => ⟨⟨hk.1.1.1.1, ⟨hk.1.1.1.2.1, ⟨hk.1.1.2, ⟨hk.1.2, ⟨hk.1.1.1.2.2.1, ⟨hk.1.1.1.2.2.2.1, hk.1.1.1.2.2.2.2⟩⟩⟩⟩⟩⟩, hk.2⟩)) hg hat)
             have n6_ := Aside0.mk (Kd.V_afterv (ok := (fun k_ => (w.heap.size ≤ k_) ∧ some k_ ≠ (.slice Ao78 t884.length co78 : Value).ownBlock ∧ some k_ ≠ (.slice (some ad911) t889.length co80 : Value).ownBlock ∧ some k_ ≠ (v918 : Value).ownBlock ∧ k_ ≠ gb874 ∧ k_ ≠ gb883 ∧ k_ ≠ g878)) (by (with_reducible repeat (first | apply Kd.V_alloc | apply Kd.V_drewN | apply Kd.V_drew)); exact Kd.V_mono HL915_2.out (fun _ hk => ⟨⟨hk.1.1.1.1, ⟨hk.1.1.1.2.1, ⟨hk.1.1.2, ⟨hk.1.2, ⟨hk.1.1.1.2.2.1, ⟨hk.1.1.1.2.2.2.1, hk.1.1.1.2.2.2.2⟩⟩⟩⟩⟩⟩, hk.2⟩)) hg hat)
             have n7_ := Aside0.mk (Kd.R_after (ok := (fun k_ => (w.heap.size ≤ k_))) zf50_31 hg hat)
             have n8_ := Aside0.mk (hb)
             have n9_ := Aside0.mk (ho)
             clear BK874
             clear HI878
             clear BK883
             clear HO886
             clear HO891
             clear HL911_2
             clear HL915_2
             clear HO919
             clear HB
             clear HO910
             have BK874 := n0_
             have HI878 := n1_
             have BK883 := n2_
             have HO886 := n3_
             have HO891 := n4_
             have HL911_2 := n5_
             have HL915_2 := n6_
             have HO919 := n7_
             have HB := n8_
             have HO914 := n9_
             clear n0_ n1_ n2_ n3_ n4_ n5_ n6_ n7_ n8_ n9_
             clear ho hb hg hat
             obtain ⟨ax_, ex_, HS6_⟩ := Kd.at_int (Kd.V_reads' HL915_2.out).2.2 (0) (of_eq_true p916) (of_eq_true q916)
             obtain rfl : ad916 = ax_ := (by injection ex_)
             (try rw [show ((0 : Int)).toNat = 0 from rfl] at HS6_)
             (try rw [Addr.add_zero'] at HS6_)
             refine hK.out _ _ ⟨HS0_, HS1_, HS2_, HS3_, HS4_, HS5_, HS6_⟩ (fun hHeld => ?_)
             clear hK K
             refine norm_ (a' := ?_) ?_ ?_
             rotate_left
             ·
              show Act.put _ (some 67) _ = _
              simp only [Act.put, List.setIfInBounds_toArray, List.set_cons_zero, List.set_cons_succ, i64_w, i32_w]
              rfl
             exact norm_ zf50_36 (hCont (v909, v913, v918) _ ⟨hHeld, zf50_32, zf50_33, zf50_34, zf50_35, zf50_25, zf50_24, zf50_2, zf50_5, zf50_3, zf50_0⟩)
           rintro ⟨v909, v913, v918⟩ w89 ⟨hS_, h0_, h1_, h2_, h3_, h4_, h5_, h6_, h7_, h8_, h9_⟩
           have n0_ : Aside0 (Kd.V (Kd.int .i64) 3 w89 w.heap.size (fun k_ => (w.heap.size ≤ k_) ∧ some k_ ≠ (.slice Ao78 t884.length co78 : Value).ownBlock ∧ some k_ ≠ (.slice (some ad911) t889.length co80 : Value).ownBlock ∧ some k_ ≠ (v913 : Value).ownBlock ∧ some k_ ≠ (v918 : Value).ownBlock ∧ k_ ≠ gb874 ∧ k_ ≠ g878 ∧ k_ ≠ gb883) (.slice A911_2 ((rd_T62 t889 t892).f2).length c911_2) ((rd_T62 t889 t892).f2)) := ⟨h0_⟩
           have n1_ : Aside0 (Kd.V (Kd.int .i64) 3 w89 w.heap.size (fun k_ => (w.heap.size ≤ k_) ∧ some k_ ≠ (.slice Ao78 t884.length co78 : Value).ownBlock ∧ some k_ ≠ (.slice (some ad911) t889.length co80 : Value).ownBlock ∧ some k_ ≠ (v913 : Value).ownBlock ∧ some k_ ≠ (v918 : Value).ownBlock ∧ k_ ≠ gb874 ∧ k_ ≠ g878 ∧ k_ ≠ gb883) (.slice (some ad916) ((rd_T62 t889 0).f2).length c915_2) ((rd_T62 t889 0).f2)) := ⟨h1_⟩
           have n2_ : Aside0 (Kd.R k80 80 w89 w.heap.size (fun k_ => (w.heap.size ≤ k_)) (.slice Ao78 t884.length co78) t884) := ⟨h2_⟩
           have n3_ : Aside0 (Kd.N k62 62 w89 w.heap.size (fun k_ => (w.heap.size ≤ k_) ∧ some k_ ≠ (.slice Ao78 t884.length co78 : Value).ownBlock ∧ some k_ ≠ (v913 : Value).ownBlock ∧ some k_ ≠ (v918 : Value).ownBlock ∧ k_ ≠ gb874 ∧ k_ ≠ g878 ∧ k_ ≠ gb883) (.slice (some ad911) t889.length co80) t889) := ⟨h3_⟩
           have n4_ : Aside0 (Kd.R (Kd.int .i64) 3 w89 w.heap.size (fun k_ => (w.heap.size ≤ k_) ∧ some k_ ≠ (v918 : Value).ownBlock) v913 y912) := ⟨h4_⟩
           have n5_ : Aside0 (Kd.R (Kd.int .i64) 3 w89 w.heap.size (fun k_ => (w.heap.size ≤ k_) ∧ some k_ ≠ (v913 : Value).ownBlock) v918 y917) := ⟨h5_⟩
           have n6_ : Aside0 (w89.heap[gb874]? = some (.cells #[.int .i64 0, .int .i64 0] 49 (0, 0))) := ⟨h6_⟩
           have n7_ : Aside0 (w89.heap[gb883]? = some (.cells #[.int .i64 t879, .int .i64 t880] 49 (0, 0))) := ⟨h7_⟩
           have n8_ : Aside0 (IsS109 w w89 g878 t875 t896 t897) := ⟨h8_⟩
           have n9_ : Aside0 (Below w.heap.size w w89) := ⟨h9_⟩
           clear HO886
           clear HO891
           clear BK874
           clear BK883
           clear HI878
           clear HB
           clear h0_ h1_ h2_ h3_ h4_ h5_ h6_ h7_ h8_ h9_
           have HL911_2 := n0_
           have HL915_2 := n1_
           have HO886 := n2_
           have HO891 := n3_
           have HO914 := n4_
           have HO919 := n5_
           have BK874 := n6_
           have BK883 := n7_
           have HI878 := n8_
           have HB := n9_
           clear n0_ n1_ n2_ n3_ n4_ n5_ n6_ n7_ n8_ n9_
           have hHeld : w89.cell? (ad911.add ((t892).toNat * 3)) = some (.int .i64 ((rd_T62 t889 t892).f0)) ∧ w89.cell? ⟨(ad911.add ((t892).toNat * 3)).block, (ad911.add ((t892).toNat * 3)).off + 1, none⟩ = some (.int .i64 ((rd_T62 t889 t892).f1)) ∧ w89.cell? ⟨(ad911.add ((t892).toNat * 3)).block, (ad911.add ((t892).toNat * 3)).off + 2, none⟩ = some (.slice A911_2 ((rd_T62 t889 t892).f2).length c911_2) ∧ w89.cell? ad911 = some (.int .i64 ((rd_T62 t889 0).f0)) ∧ w89.cell? ⟨ad911.block, ad911.off + 1, none⟩ = some (.int .i64 ((rd_T62 t889 0).f1)) ∧ w89.cell? ⟨ad911.block, ad911.off + 2, none⟩ = some (.slice (some ad916) ((rd_T62 t889 0).f2).length c915_2) ∧ w89.cell? ad916 = some (.int .i64 (rd ((rd_T62 t889 0).f2) 0)) := hS_
           obtain ⟨Ao91, co91, eo91⟩ := Kd.R_slice HO919.out
           (first | subst eo91 | (injection eo91 with f1_ f2_ f3_; have f4_ := f1_.symm; have f5_ := f3_.symm; clear f1_ f2_ f3_; subst f4_; subst f5_))
           refine norm_ (a' := ?_) ?_ ?_
           rotate_left
           ·
            simp only [putAll, Act.put, List.setIfInBounds_toArray, List.set_cons_zero, List.set_cons_succ]
            rfl
           refine one_ (i := 16) (N := some 75) #[true, true, true, true, true, true, true, true, true, true, true, true, true, true, true, true, true, false, false, false] rfl rfl (one_of HT_.out (by kernel_rfl)) (by decide) (fun K hK => ?_)
           refine Kd.R_append_rows_step (Kd.int .i64) (w0 := w) w.heap.size (by rfl) (.tmp 67) (.tmp 74) 22 3 (.int .i64 0) 8 rfl Try.underlying22 info3 rfl (by decide) (by omega) v913 y912 y917 _ _ _ (fun k_ => (w.heap.size ≤ k_) ∧ some k_ ≠ (.slice Ao91 y917.length co91 : Value).ownBlock) (fun _ => False) rfl rfl ?aO ?aR (fun _ _ h => h) (fun _ h => h.elim) ?aF ?aB ?aS ?aL ?_
           (case aR => repeat (first | exact (Kd.R_reads' HO919.out).2.2 | (with_reducible refine Kd.C_alloc ?_ _) | (with_reducible refine Kd.C_drewN ?_ _) | (with_reducible refine Kd.C_drew ?_)))
           (case aB => exact zf50_0)
           (case aF => exact (fun k_ hk => ⟨(Nat.le_trans (below_size zf50_0) hk), Kd.fresh' (Kd.R_lt zf50_24) k_ hk⟩))
           (case aO => exact zf50_25)
           (case aS => exact (below_size zf50_0))
           (case aL => have := LMc67.out; omega)
           intro v921 w90 ho hb hg hat
           (first | have HS0_ := cell_grown hg (hHeld.1) zf50_8 | have HS0_ := cell_grown hg (cell_unalloc (hHeld.1) zf50_9) zf50_8)
           (first | have HS1_ := cell_grown hg (hHeld.2.1) zf50_8 | have HS1_ := cell_grown hg (cell_unalloc (hHeld.2.1) zf50_9) zf50_8)
           (first | have HS2_ := cell_grown hg (hHeld.2.2.1) zf50_8 | have HS2_ := cell_grown hg (cell_unalloc (hHeld.2.2.1) zf50_9) zf50_8)
           (first | have HS3_ := cell_grown hg (hHeld.2.2.2.1) zf50_8 | have HS3_ := cell_grown hg (cell_unalloc (hHeld.2.2.2.1) zf50_9) zf50_8)
           (first | have HS4_ := cell_grown hg (hHeld.2.2.2.2.1) zf50_8 | have HS4_ := cell_grown hg (cell_unalloc (hHeld.2.2.2.2.1) zf50_9) zf50_8)
           (first | have HS5_ := cell_grown hg (hHeld.2.2.2.2.2.1) zf50_8 | have HS5_ := cell_grown hg (cell_unalloc (hHeld.2.2.2.2.2.1) zf50_9) zf50_8)
           rw [← Ny920.out] at ho
           have n0_ := Aside0.mk (blk_grown (g := gb874) (o := .cells #[.int .i64 0, .int .i64 0] 49 (0, 0)) zf50_2 hg (Kd.R_ne HO914.out BK874.out (by decide)))
           have n1_ := Aside0.mk (IsS109.grown zf50_3 hg (IsS109.own_ne HI878.out HO914.out (by decide)))
           have n2_ := Aside0.mk (blk_grown (g := gb883) (o := .cells #[.int .i64 t879, .int .i64 t880] 49 (0, 0)) zf50_5 hg (Kd.R_ne HO914.out BK883.out (by decide)))
           have n3_ := Aside0.mk (Kd.R_over' zf50_6 (Kd.R_typed zf50_25) (by decide) hg)
           have n4_ := Aside0.mk (Kd.N_afterv (ok := (fun k_ => (w.heap.size ≤ k_) ∧ some k_ ≠ (.slice Ao78 t884.length co78 : Value).ownBlock ∧ some k_ ≠ (.slice Ao91 y917.length co91 : Value).ownBlock ∧ k_ ≠ gb874 ∧ k_ ≠ g878 ∧ k_ ≠ gb883)) (by (with_reducible repeat (first | apply Kd.N_alloc | apply Kd.N_drewN | apply Kd.N_drew)); exact Kd.N_mono HO891.out (fun _ hk => ⟨⟨hk.1, ⟨hk.2.1, ⟨hk.2.2.2.1, ⟨hk.2.2.2.2.1, ⟨hk.2.2.2.2.2.1, hk.2.2.2.2.2.2⟩⟩⟩⟩⟩, hk.2.2.1⟩)) hg hat)
           have n5_ := Aside0.mk (Kd.V_afterv (ok := (fun k_ => (w.heap.size ≤ k_) ∧ some k_ ≠ (.slice Ao78 t884.length co78 : Value).ownBlock ∧ some k_ ≠ (.slice (some ad911) t889.length co80 : Value).ownBlock ∧ some k_ ≠ (.slice Ao91 y917.length co91 : Value).ownBlock ∧ k_ ≠ gb874 ∧ k_ ≠ g878 ∧ k_ ≠ gb883)) (by (with_reducible repeat (first | apply Kd.V_alloc | apply Kd.V_drewN | apply Kd.V_drew)); exact Kd.V_mono HL911_2.out (fun _ hk => ⟨⟨hk.1, ⟨hk.2.1, ⟨hk.2.2.1, ⟨hk.2.2.2.2.1, ⟨hk.2.2.2.2.2.1, ⟨hk.2.2.2.2.2.2.1, hk.2.2.2.2.2.2.2⟩⟩⟩⟩⟩⟩, hk.2.2.2.1⟩)) hg hat)
           have n6_ := Aside0.mk (Kd.V_afterv (ok := (fun k_ => (w.heap.size ≤ k_) ∧ some k_ ≠ (.slice Ao78 t884.length co78 : Value).ownBlock ∧ some k_ ≠ (.slice (some ad911) t889.length co80 : Value).ownBlock ∧ some k_ ≠ (.slice Ao91 y917.length co91 : Value).ownBlock ∧ k_ ≠ gb874 ∧ k_ ≠ g878 ∧ k_ ≠ gb883)) (by (with_reducible repeat (first | apply Kd.V_alloc | apply Kd.V_drewN | apply Kd.V_drew)); exact Kd.V_mono HL915_2.out (fun _ hk => ⟨⟨hk.1, ⟨hk.2.1, ⟨hk.2.2.1, ⟨hk.2.2.2.2.1, ⟨hk.2.2.2.2.2.1, ⟨hk.2.2.2.2.2.2.1, hk.2.2.2.2.2.2.2⟩⟩⟩⟩⟩⟩, hk.2.2.2.1⟩)) hg hat)
           have n7_ := Aside0.mk (Kd.R_after (ok := (fun k_ => (w.heap.size ≤ k_))) zf50_24 hg hat)
           have n8_ := Aside0.mk (hb)
           have n9_ := Aside0.mk (ho)
           clear BK874
           clear HI878
           clear BK883
           clear HO886
           clear HO891
           clear HL911_2
           clear HL915_2
           clear HO919
           clear HB
           clear HO914
           have BK874 := n0_
           have HI878 := n1_
           have BK883 := n2_
           have HO886 := n3_
           have HO891 := n4_
           have HL911_2 := n5_
           have HL915_2 := n6_
           have HO919 := n7_
           have HB := n8_
           have HO922 := n9_
           clear n0_ n1_ n2_ n3_ n4_ n5_ n6_ n7_ n8_ n9_
           clear ho hb hg hat
           have p68 : 0 ≤ (t892 : Int) := of_decide_eq_true zf50_17
           have q68 : (t892 : Int) < ((t889.length : Int) : Int) := of_decide_eq_true zf50_17
           obtain ⟨go68, co68, eo68, gb68, gl68, cl68, HG68⟩ := Kd.N_form HO891.out (by omega)
           (first | cases eo68 | (injection eo68 with ea_ en_ ec_; (first | subst ea_ | (injection ea_ with ea_; subst ea_)); subst ec_; clear en_))
           have GB68 := Aside0.mk gb68
           have GG68 := Aside0.mk HG68
           clear gb68 gl68 HG68
           (first | simp only [add_plain] at hx911_0 | skip)
           (first | simp only [add_plain] at hx911_1 | skip)
           (first | simp only [add_plain] at hx911_2 | skip)
           (first | simp only [add_plain] at hx915_0 | skip)
           (first | simp only [add_plain] at hx915_1 | skip)
           (first | simp only [add_plain] at hx915_2 | skip)
           obtain ⟨ce68, hcl68, hM68, hcc68, hfr68⟩ := Kd.N_elem HO891.out z62 (t892 : Int) p68 q68
           obtain ⟨ua68_2, uc68_2, rfl, ul68_2, ge68_2⟩ := k62_openF hM68
           have hx68_0 : World.cell? _ ⟨go68, (t892 : Int).toNat * 3, none⟩ = some (.int .i64 ((rd_T62 t889 t892).f0)) := hcc68 0 _ rfl
           have hx68_1 : World.cell? _ ⟨go68, (t892 : Int).toNat * 3 + 1, none⟩ = some (.int .i64 ((rd_T62 t889 t892).f1)) := hcc68 1 _ rfl
           have hx68_2 : World.cell? _ ⟨go68, (t892 : Int).toNat * 3 + 2, none⟩ = some (.slice ua68_2 ((rd_T62 t889 t892).f2).length uc68_2) := hcc68 2 _ rfl
           have hf68_0 : World.frozen? _ ⟨go68, (t892 : Int).toNat * 3, none⟩ = false := hfr68 0
           have hf68_1 : World.frozen? _ ⟨go68, (t892 : Int).toNat * 3 + 1, none⟩ = false := hfr68 1
           have hf68_2 : World.frozen? _ ⟨go68, (t892 : Int).toNat * 3 + 2, none⟩ = false := hfr68 2
           clear hcl68 hcc68 hfr68 hM68
           replace p68 := eq_true p68
           replace q68 := eq_true q68
           have HN878_go68 := Aside0.mk (show g878 ≠ go68 from by have h_ := IsS109.own_neN HI878.out HO891.out (by decide); intro e_; exact h_ (by rw [e_]; rfl))
           obtain ⟨Ao921, co921, eo921⟩ := Kd.R_slice HO922.out
           subst eo921
           have HX92 := Aside0.mk (show Kd.N k62 62 _ w.heap.size (fun k_ => (w.heap.size ≤ k_) ∧ some k_ ≠ (.slice Ao78 t884.length co78 : Value).ownBlock ∧ some k_ ≠ (.slice Ao91 y917.length co91 : Value).ownBlock ∧ some k_ ≠ ((.slice Ao921 y920.length co921) : Value).ownBlock ∧ k_ ≠ gb874 ∧ k_ ≠ gb883 ∧ k_ ≠ g878) (.slice (some ⟨go68, 0, none⟩) t889.length co80) t889 from (Kd.N_mono (HO891.out) (fun k_ hk => ⟨hk.1.1, ⟨hk.1.2.1, ⟨hk.1.2.2.1, ⟨hk.2, ⟨hk.1.2.2.2.1, ⟨hk.1.2.2.2.2.2, hk.1.2.2.2.2.1⟩⟩⟩⟩⟩⟩)))
           replace HX92 := Aside0.mk (show Kd.N k62 62 _ w.heap.size (fun k_ => (w.heap.size ≤ k_) ∧ some k_ ≠ (.slice Ao78 t884.length co78 : Value).ownBlock ∧ some k_ ≠ (.slice Ao91 y917.length co91 : Value).ownBlock ∧ k_ ≠ gb874 ∧ k_ ≠ gb883 ∧ k_ ≠ g878) (.slice (some ⟨go68, 0, none⟩) t889.length co80) t889 from Kd.N_mono HX92.out (fun k_ hk => ⟨hk.1, ⟨hk.2.1, ⟨hk.2.2.1, ⟨hk.2.2.2.2.1, ⟨hk.2.2.2.2.2.1, hk.2.2.2.2.2.2⟩⟩⟩⟩⟩))
           obtain ⟨ce92, hcl92, hM92, hcc92, hfr92⟩ := Kd.N_elem HX92.out z62 (t892 : Int) (of_decide_eq_true zf50_17) zf50_20
           obtain ⟨ua92_2, uc92_2, rfl, ul92_2, ge92_2⟩ := k62_openF hM92
           have HP92 := (Kd.N_seg HX92.out (t892 : Int) (of_decide_eq_true zf50_17) zf50_20 (seg := [(.slice Ao921 y920.length co921)]) (j := 2) hcl92 hcc92 (show 3 ≤ 3 from by decide) (x' := (⟨(rd_T62 t889 t892).f0, (rd_T62 t889 t892).f1, y920⟩ : S62)) (k62_mkF _ _ (⟨(rd_T62 t889 t892).f0, (rd_T62 t889 t892).f1, y920⟩ : S62) (Kd.R_reads' (Kd.R_mono (ok' := (fun k_ => ((fun k_ => (w.heap.size ≤ k_) ∧ some k_ ≠ (.slice Ao78 t884.length co78 : Value).ownBlock ∧ some k_ ≠ (.slice Ao91 y917.length co91 : Value).ownBlock ∧ k_ ≠ gb874 ∧ k_ ≠ gb883 ∧ k_ ≠ g878)) k_ ∧ k_ ≠ go68)) (IsS109.apart HI878.out (Kd.R_types (Kd.R_types (Kd.R_apart' (Kd.R_apart' (HO922.out) (Kd.R_typed HO886.out) (by decide)) (Kd.N_typed HO891.out) (by decide)) BK874.out (by decide)) BK883.out (by decide)) (by decide)) (fun k_ hk => ⟨⟨hk.1.1.1.1.1.1, ⟨hk.1.1.1.1.2, ⟨hk.1.1.1.1.1.2, ⟨hk.1.1.2, ⟨hk.1.2, hk.2⟩⟩⟩⟩⟩, fun e_ => (hk.1.1.1.2) (by rw [e_]; rfl)⟩))).2.1 (Kd.R_F (Kd.R_mono (ok' := (fun k_ => ((fun k_ => (w.heap.size ≤ k_) ∧ some k_ ≠ (.slice Ao78 t884.length co78 : Value).ownBlock ∧ some k_ ≠ (.slice Ao91 y917.length co91 : Value).ownBlock ∧ k_ ≠ gb874 ∧ k_ ≠ gb883 ∧ k_ ≠ g878)) k_ ∧ k_ ≠ go68)) (IsS109.apart HI878.out (Kd.R_types (Kd.R_types (Kd.R_apart' (Kd.R_apart' (HO922.out) (Kd.R_typed HO886.out) (by decide)) (Kd.N_typed HO891.out) (by decide)) BK874.out (by decide)) BK883.out (by decide)) (by decide)) (fun k_ hk => ⟨⟨hk.1.1.1.1.1.1, ⟨hk.1.1.1.1.2, ⟨hk.1.1.1.1.1.2, ⟨hk.1.1.2, ⟨hk.1.2, hk.2⟩⟩⟩⟩⟩, fun e_ => (hk.1.1.1.2) (by rw [e_]; rfl)⟩)))) (fun _ hk => hk)).1
           rw [← Ny923.out] at HP92
           have HQ92 := Aside0.mk HP92
           clear hcl92 hcc92 hfr92 hM92 HP92
           obtain ⟨ax_, ex_, HS6_⟩ := Kd.at_int (Kd.V_reads' HL915_2.out).2.2 (0) (of_eq_true p916) (of_eq_true q916)
           obtain rfl : ad916 = ax_ := (by injection ex_)
           (try rw [show ((0 : Int)).toNat = 0 from rfl] at HS6_)
           (try rw [Addr.add_zero'] at HS6_)
           refine hK.out _ _ ⟨HS0_, HS1_, HS2_, HS3_, HS4_, HS5_, HS6_⟩ (fun hHeld => ?_)
           clear hK K
           refine norm_ (a' := ?_) ?_ ?_
           rotate_left
           ·
            show Act.put _ (some 75) _ = _
            simp only [Act.put, List.setIfInBounds_toArray, List.set_cons_zero, List.set_cons_succ, i64_w, i32_w]
            rfl
           refine pS 17 76 ?_
           refine pS 18 77 ?_
           refine last_ (i := 19) (N := none) #[true, true, true, true, true, true, true, true, true, true, true, true, true, true, true, true, true, true, true, true] rfl rfl (one_of HT_.out (by kernel_rfl)) (by decide) (fun K hK => ?_)
           refine skip_ (w1 := ?_) (by rfl) rfl ?_ ?_
           rotate_left
           ·
            go_simp
            rfl
           refine hK.out _ _ ?_
           clear hK K
           refine done_ (done_of HT_.out (by kernel_rfl)) ?_
           have n0_ : Aside0 (Kd.R k80 80 (w90.setCell ⟨go68, (t892 : Int).toNat * 3 + 2, none⟩ ((.slice Ao921 y920.length co921))) w.heap.size (fun k_ => (w.heap.size ≤ k_)) (.slice Ao78 t884.length co78) t884) := ⟨by (with_reducible repeat (first | apply Kd.R_alloc | apply Kd.R_drewN | apply Kd.R_drew)); exact Kd.R_mono (Kd.R_far (p := ⟨go68, (t892 : Int).toNat * 3 + 2, none⟩) (Kd.R_types HO886.out GG68.out (by decide)) (fun _ hk => hk.2) ((.slice Ao921 y920.length co921))) (fun _ hk => hk.1)⟩
           have n1_ : Aside0 (Kd.N k62 62 (w90.setCell ⟨go68, (t892 : Int).toNat * 3 + 2, none⟩ ((.slice Ao921 y920.length co921))) w.heap.size (fun k_ => (w.heap.size ≤ k_) ∧ some k_ ≠ (.slice Ao78 t884.length co78 : Value).ownBlock ∧ some k_ ≠ (.slice Ao91 y917.length co91 : Value).ownBlock ∧ k_ ≠ gb874 ∧ k_ ≠ g878 ∧ k_ ≠ gb883) (.slice (some ⟨go68, 0, none⟩) t889.length co80) y923) := ⟨by (with_reducible repeat (first | apply Kd.N_alloc | apply Kd.N_drewN | apply Kd.N_drew)); exact Kd.N_mono HQ92.out (fun _ hk => ⟨hk.1, ⟨hk.2.1, ⟨hk.2.2.1, ⟨hk.2.2.2.1, ⟨hk.2.2.2.2.2, hk.2.2.2.2.1⟩⟩⟩⟩⟩)⟩
           have n2_ : Aside0 (Kd.V (Kd.int .i64) 3 (w90.setCell ⟨go68, (t892 : Int).toNat * 3 + 2, none⟩ ((.slice Ao921 y920.length co921))) w.heap.size (fun k_ => (w.heap.size ≤ k_) ∧ some k_ ≠ (.slice Ao78 t884.length co78 : Value).ownBlock ∧ some k_ ≠ (.slice (some ⟨go68, 0, none⟩) t889.length co80 : Value).ownBlock ∧ some k_ ≠ (.slice Ao91 y917.length co91 : Value).ownBlock ∧ k_ ≠ gb874 ∧ k_ ≠ g878 ∧ k_ ≠ gb883) (.slice A911_2 ((rd_T62 t889 t892).f2).length c911_2) ((rd_T62 t889 t892).f2)) := ⟨by (with_reducible repeat (first | apply Kd.V_alloc | apply Kd.V_drewN | apply Kd.V_drew)); exact Kd.V_mono (Kd.V_far (p := ⟨go68, (t892 : Int).toNat * 3 + 2, none⟩) (Kd.V_mono HL911_2.out (fun k_ hk => (⟨hk, fun e_ => hk.1.2.2.1 (by rw [e_]; rfl)⟩ : _ ∧ k_ ≠ go68))) (fun _ hk => hk.2) ((.slice Ao921 y920.length co921))) (fun _ hk => ⟨hk.1.1.1, ⟨hk.1.1.2.1, ⟨hk.1.1.2.2.1, ⟨hk.1.1.2.2.2.1, ⟨hk.1.1.2.2.2.2.1, ⟨hk.1.1.2.2.2.2.2.1, hk.1.1.2.2.2.2.2.2⟩⟩⟩⟩⟩⟩)⟩
           have n3_ : Aside0 (Kd.V (Kd.int .i64) 3 (w90.setCell ⟨go68, (t892 : Int).toNat * 3 + 2, none⟩ ((.slice Ao921 y920.length co921))) w.heap.size (fun k_ => (w.heap.size ≤ k_) ∧ some k_ ≠ (.slice Ao78 t884.length co78 : Value).ownBlock ∧ some k_ ≠ (.slice (some ⟨go68, 0, none⟩) t889.length co80 : Value).ownBlock ∧ some k_ ≠ (.slice Ao91 y917.length co91 : Value).ownBlock ∧ k_ ≠ gb874 ∧ k_ ≠ g878 ∧ k_ ≠ gb883) (.slice (some ad916) ((rd_T62 t889 0).f2).length c915_2) ((rd_T62 t889 0).f2)) := ⟨by (with_reducible repeat (first | apply Kd.V_alloc | apply Kd.V_drewN | apply Kd.V_drew)); exact Kd.V_mono (Kd.V_far (p := ⟨go68, (t892 : Int).toNat * 3 + 2, none⟩) (Kd.V_mono HL915_2.out (fun k_ hk => (⟨hk, fun e_ => hk.1.2.2.1 (by rw [e_]; rfl)⟩ : _ ∧ k_ ≠ go68))) (fun _ hk => hk.2) ((.slice Ao921 y920.length co921))) (fun _ hk => ⟨hk.1.1.1, ⟨hk.1.1.2.1, ⟨hk.1.1.2.2.1, ⟨hk.1.1.2.2.2.1, ⟨hk.1.1.2.2.2.2.1, ⟨hk.1.1.2.2.2.2.2.1, hk.1.1.2.2.2.2.2.2⟩⟩⟩⟩⟩⟩)⟩
           have n4_ : Aside0 (Kd.R (Kd.int .i64) 3 (w90.setCell ⟨go68, (t892 : Int).toNat * 3 + 2, none⟩ ((.slice Ao921 y920.length co921))) w.heap.size (fun k_ => (w.heap.size ≤ k_)) (.slice Ao91 y917.length co91) y917) := ⟨by (with_reducible repeat (first | apply Kd.R_alloc | apply Kd.R_drewN | apply Kd.R_drew)); exact Kd.R_mono (Kd.R_far (p := ⟨go68, (t892 : Int).toNat * 3 + 2, none⟩) (Kd.R_types HO919.out GG68.out (by decide)) (fun _ hk => hk.2) ((.slice Ao921 y920.length co921))) (fun _ hk => hk.1.1)⟩
           have n5_ : Aside0 ((w90.setCell ⟨go68, (t892 : Int).toNat * 3 + 2, none⟩ ((.slice Ao921 y920.length co921))).heap[gb874]? = some (.cells #[.int .i64 0, .int .i64 0] 49 (0, 0))) := ⟨by (with_reducible repeat (first | refine blk_drewN ?_ _ | refine blk_drew ?_ | refine blk_alloc ?_ _)); refine blk_far ?_ (by have h_ := Kd.N_away (g := gb874) HO891.out (fun _ hk => by first | with_reducible exact hk.2.2.2.1 | with_reducible exact hk.1.2 | with_reducible exact hk.1.2.1 | with_reducible exact hk.1.2.2 | with_reducible exact hk.1.2.2.1 | with_reducible exact hk.1.2.2.2 | with_reducible exact hk.1.2.2.2.1 | with_reducible exact hk.1.2.2.2.2 | with_reducible exact hk.1.2.2.2.2.1 | with_reducible exact hk.1.2.2.2.2.2 | with_reducible exact hk.1.2.2.2.2.2.1 | with_reducible exact hk.1.2.2.2.2.2.2 | with_reducible exact hk.1.2.2.2.2.2.2.1 | with_reducible exact hk.1.2.2.2.2.2.2.2 | with_reducible exact hk.1.2.2.2.2.2.2.2.1 | with_reducible exact hk.1.2.2.2.2.2.2.2.2 | with_reducible exact hk.1.2.2.2.2.2.2.2.2.1); intro e_; exact h_ (by rw [e_]; rfl)) _; (with_reducible repeat (first | refine blk_drewN ?_ _ | refine blk_drew ?_ | refine blk_alloc ?_ _)); exact BK874.out⟩
           have n6_ : Aside0 ((w90.setCell ⟨go68, (t892 : Int).toNat * 3 + 2, none⟩ ((.slice Ao921 y920.length co921))).heap[gb883]? = some (.cells #[.int .i64 t879, .int .i64 t880] 49 (0, 0))) := ⟨by (with_reducible repeat (first | refine blk_drewN ?_ _ | refine blk_drew ?_ | refine blk_alloc ?_ _)); refine blk_far ?_ (by have h_ := Kd.N_away (g := gb883) HO891.out (fun _ hk => by first | with_reducible exact hk.2.2.2.2.1 | with_reducible exact hk.1.2 | with_reducible exact hk.1.2.1 | with_reducible exact hk.1.2.2 | with_reducible exact hk.1.2.2.1 | with_reducible exact hk.1.2.2.2 | with_reducible exact hk.1.2.2.2.1 | with_reducible exact hk.1.2.2.2.2 | with_reducible exact hk.1.2.2.2.2.1 | with_reducible exact hk.1.2.2.2.2.2 | with_reducible exact hk.1.2.2.2.2.2.1 | with_reducible exact hk.1.2.2.2.2.2.2 | with_reducible exact hk.1.2.2.2.2.2.2.1 | with_reducible exact hk.1.2.2.2.2.2.2.2 | with_reducible exact hk.1.2.2.2.2.2.2.2.1 | with_reducible exact hk.1.2.2.2.2.2.2.2.2 | with_reducible exact hk.1.2.2.2.2.2.2.2.2.1); intro e_; exact h_ (by rw [e_]; rfl)) _; (with_reducible repeat (first | refine blk_drewN ?_ _ | refine blk_drew ?_ | refine blk_alloc ?_ _)); exact BK883.out⟩
           have n7_ : Aside0 (IsS109 w (w90.setCell ⟨go68, (t892 : Int).toNat * 3 + 2, none⟩ ((.slice Ao921 y920.length co921))) g878 t875 t896 t897) := ⟨by repeat (first | (with_reducible first | exact HI878.out | apply IsS109.alloc | apply IsS109.drewN | apply IsS109.drew | apply IsS109.set_1 | apply IsS109.set_2 | refine IsS109.far ?_ HN878_go68.out _ | refine IsS109.far ?_ NB878_874.out _ | refine IsS109.far ?_ NB878_883.out _) | exact HI878.out)⟩
           have n8_ : Aside0 (Below w.heap.size w (w90.setCell ⟨go68, (t892 : Int).toNat * 3 + 2, none⟩ ((.slice Ao921 y920.length co921)))) := ⟨by repeat (first | (with_reducible first | exact HB.out | apply below_alloc | apply pw_below_drewN | apply below_drew1 | refine below_set ?_ GB68.out | refine below_set ?_ (IsS109.ge HI878.out) | refine below_set ?_ GE874.out | refine below_set ?_ GE883.out) | exact HB.out)⟩
           (try clear HO886)
           (try clear HO891)
           (try clear HL911_2)
           (try clear HL915_2)
           (try clear HO919)
           (try clear BK874)
           (try clear BK883)
           (try clear HI878)
           (try clear HB)
           generalize (w90.setCell ⟨go68, (t892 : Int).toNat * 3 + 2, none⟩ ((.slice Ao921 y920.length co921))) = w93 at n0_ n1_ n2_ n3_ n4_ n5_ n6_ n7_ n8_ ⊢
           have HO886 := n0_
           have HO891 := n1_
           have HL911_2 := n2_
           have HL915_2 := n3_
           have HO919 := n4_
           have BK874 := n5_
           have BK883 := n6_
           have HI878 := n7_
           have HB := n8_
           clear n0_ n1_ n2_ n3_ n4_ n5_ n6_ n7_ n8_
           have hcz94_0 : w93.cell? ⟨gb883, 0, none⟩ = some (.int .i64 t879) := (blk_cell BK883.out 0).trans rfl
           have hcz94_1 : w93.cell? ⟨gb883, 1, none⟩ = some (.int .i64 t880) := (blk_cell BK883.out 1).trans rfl
           have hfz94_0 := blk_frozen BK883.out 0
           have hfz94_1 := blk_frozen BK883.out 1
           have hnb95 := NB874_878.out
           have hnc95 := NB878_874.out
           have hcz96_0 : w93.cell? ⟨gb874, 0, none⟩ = some (.int .i64 0) := (blk_cell BK874.out 0).trans rfl
           have hcz96_1 : w93.cell? ⟨gb874, 1, none⟩ = some (.int .i64 0) := (blk_cell BK874.out 1).trans rfl
           have hfz96_0 := blk_frozen BK874.out 0
           have hfz96_1 := blk_frozen BK874.out 1
           try go_wp2
           refine bodyPost_ret (results_ctt rfl _ _ gb874 49 #[.int .i64 t879, .int .i64 t880] (0, 0) _ rfl zf50_11 Try.underlying49 rfl (by kernel_rfl)) rfl ?_
           exact ⟨_, _, by first | rfl | (simp [errW_none, errW_some] <;> rfl) | (simp [*, errW_none, errW_some] <;> rfl), by (with_reducible repeat (first | apply Kd.R_alloc | apply Kd.R_drewN | apply Kd.R_drew)); exact Kd.R_mono (Kd.R_far (p := ⟨gb874, 1, none⟩) (Kd.R_far (p := ⟨gb874, 0, none⟩) (Kd.R_types HO886.out BK874.out (by decide)) (fun _ hk => hk.2) (.int .i64 t879)) (fun _ hk => hk.2) (.int .i64 t880)) (fun _ hk => hk.1), by (with_reducible repeat (first | apply Kd.N_alloc | apply Kd.N_drewN | apply Kd.N_drew)); exact Kd.N_mono (Kd.N_far (p := ⟨gb874, 1, none⟩) (Kd.N_far (p := ⟨gb874, 0, none⟩) (Kd.N_mono HO891.out (fun k_ hk => (⟨hk, hk.2.2.2.1⟩ : _ ∧ k_ ≠ gb874))) (fun _ hk => hk.2) (.int .i64 t879)) (fun _ hk => hk.2) (.int .i64 t880)) (fun _ hk => ⟨hk.1.1, hk.1.2.1⟩), by repeat (first | (with_reducible first | exact HB.out | apply below_alloc | apply pw_below_drewN | apply below_drew1 | refine below_set ?_ (IsS109.ge HI878.out) | refine below_set ?_ GE874.out | refine below_set ?_ GE883.out) | exact HB.out)⟩
          ·
           rw [if_neg c67] at H
           exact absurd H (by simp)
         ·
          rw [if_neg c66] at H
          exact absurd H (by simp)
        ·
         rw [if_neg c65] at H
         exact absurd H (by simp)
       ·
        rw [if_neg c64] at H
        exact absurd H (by simp)
      ·
       rw [if_neg c63] at H
       exact absurd H (by simp)
     ·
      rw [if_neg c62] at H
      exact absurd H (by simp)
    ·
     rw [if_neg c61] at H
     have c61b0 : (t895 == 2) = false := beq_eq_false_iff_ne.mpr c61
     have c61b1 : (t895 != 2) = true := bne_iff_ne.mpr c61
     by_cases c97 : t895 = 3
     ·
      rw [if_pos c97] at H
      have c97b0 : (t895 == 3) = true := beq_iff_eq.mpr c97
      have c97b1 : (t895 != 3) = false := bne_eq_false_iff_eq.mpr c97
      clear c97
      obtain ⟨ji98, hji98⟩ : ∃ j_ : Int, (wrap64 ((t889.length : Int) - 1)) = j_ := ⟨_, rfl⟩
      replace H : (if 0 ≤ (ji98) then (if (ji98) ≤ (t889.length : Int) then (some (t879, t880, t884, (t889.take ((ji98) : Int).toNat))) else (none)) else (none)) = some (r1, r2, r3, r4) := by first | (rw [hji98] at H; exact H) | (simp only [hji98] at H ⊢; exact H)
      (try rw [hji98] at A2)
      (try rw [hji98] at A3)
      (try rw [hji98] at A4)
      (try rw [hji98] at A5)
      (try rw [hji98] at A7)
      (try rw [hji98] at A8)
      have hji98w : (IntKind.i64.wrap ((t889.length : Int) - 1)) = ji98 := (i64_w _).trans hji98
      by_cases c99 : 0 ≤ (ji98)
      ·
       rw [if_pos c99] at H
       have c99b0 := eq_true c99
       have c99b1 : decide (0 ≤ (ji98)) = true := decide_eq_true c99
       clear c99
       by_cases c100 : (ji98) ≤ (t889.length : Int)
       ·
        rw [if_pos c100] at H
        have c100b0 := eq_true c100
        have c100b1 : decide ((ji98) ≤ (t889.length : Int)) = true := decide_eq_true c100
        clear c100
        obtain ⟨y924, hy924⟩ : ∃ y_ : List (S62), y_ = (t889.take ((ji98) : Int).toNat) := ⟨_, rfl⟩
        replace H : (some (t879, t880, t884, y924)) = some (r1, r2, r3, r4) := by first | (rw [hy924]; with_reducible exact H) | (have H2_ := (Option.bind_some _ _).symm.trans H; rw [hy924]; with_reducible exact H2_) | (have H2_ := (Option.bind_some _ _).symm.trans H; with_reducible exact H2_) | with_reducible exact H | (rw [hy924]; exact H) | exact H
        have Ny924 := Aside0.mk hy924
        clear hy924
        simp only [Option.some.injEq, Prod.mk.injEq] at H
        obtain ⟨rfl, rfl, rfl, rfl⟩ := H
        go_enter Try.func50, Try.ntmps50
        go_wp2_with (first | ((with_reducible refine gate_dst (N := 2) rfl ?_); refine box_event ?hg (N := 2) ?hd (cs := #[.int .i64 0, .int .i64 0]) (t := 49) ?hr ?_; (case hd => rfl); (case hg => rfl); (case hr => first | (go_simp; done) | (go_simp; rfl)); intro gb874 hg w101 hbox hb; have n0_ := Aside0.mk (below_step zf50_12 hb); have n1_ := Aside0.mk (hbox); have n2_ := Aside0.mk ((zf50_27 : w.heap.size ≤ gb874)); have n3_ := Aside0.mk ((zf50_27 : w.heap.size ≤ gb874)); clear HB; have HB := n0_; have BK874 := n1_; have GW874 := n2_; have GE874 := n3_; clear n0_ n1_ n2_ n3_; clear hb hbox hg) | ((with_reducible refine gate_callee (f := 66) rfl ?_); refine goesL_ (some 12) rfl rfl Try.func66 (by kernel_rfl) rfl #[.slice A0 l0.length c0] rfl zf50_4 ?_; (with_reducible refine (spec_l01New.calls k _ _ l0 t875 t876 t877 w _ ?side1 ?side2 ?side3 A2.out).mono ?_); (case side1 => repeat (first | (with_reducible first | exact HB.out | apply below_alloc | apply pw_below_drewN | apply below_drew1 | refine below_set ?_ GE874.out) | exact HB.out)); (case side2 => exact HR0.out); (case side3 => exact HC0.out); rintro e w102 ⟨g878, rfl, hi, hb, hb2⟩; refine ⟨_, rfl, ?_⟩; have n0_ := Aside0.mk (blk_below (g := gb874) (o := .cells #[.int .i64 0, .int .i64 0] 49 (0, 0)) zf50_2 hb2); have n1_ := Aside0.mk (hb); have n2_ := Aside0.mk (hi); have n3_ := Aside0.mk (IsS109.ne_blk hi (blk_below (g := gb874) (o := .cells #[.int .i64 0, .int .i64 0] 49 (0, 0)) zf50_2 hb2) (by decide)); have n4_ := Aside0.mk (Ne.symm (IsS109.ne_blk hi (blk_below (g := gb874) (o := .cells #[.int .i64 0, .int .i64 0] 49 (0, 0)) zf50_2 hb2) (by decide))); clear BK874; clear HB; have BK874 := n0_; have HB := n1_; have HI878 := n2_; have NB878_874 := n3_; have NB874_878 := n4_; clear n0_ n1_ n2_ n3_ n4_; (try clear hb); (try clear hb2); (try clear hk); (try clear hi)) | ((with_reducible refine gate_callee (f := 85) rfl ?_); refine goesL_ (some 14) rfl rfl Try.func85 (by kernel_rfl) rfl #[.pointer (some ⟨g878, 0, none⟩)] rfl zf50_4 ?_; (with_reducible refine (spec_l07AnyLimits.calls g878 t875 t876 t877 t879 t880 t881 t882 w _ ?side1 ?side2 A3.out).mono ?_); (case side1 => repeat (first | (with_reducible first | exact HI878.out | apply IsS109.alloc | apply IsS109.drewN | apply IsS109.drew | apply IsS109.set_1 | apply IsS109.set_2 | refine IsS109.far ?_ NB878_874.out _) | exact HI878.out)); (case side2 => repeat (first | (with_reducible first | exact HB.out | apply below_alloc | apply pw_below_drewN | apply below_drew1 | refine below_set ?_ (IsS109.ge HI878.out) | refine below_set ?_ GE874.out) | exact HB.out)); rintro e w103 ⟨rfl, hi, hb, hk⟩; refine ⟨_, rfl, ?_⟩; have n0_ := Aside0.mk (KeepBut.blk hk (g' := gb874) (o := .cells #[.int .i64 0, .int .i64 0] 49 (0, 0)) zf50_2 NB874_878.out (by simp)); have n1_ := Aside0.mk (hb); have n2_ := Aside0.mk (hi); clear BK874; clear HB; clear HI878; have BK874 := n0_; have HB := n1_; have HI878 := n2_; clear n0_ n1_ n2_; (try clear hb); (try clear hb2); (try clear hk); (try clear hi)) | ((with_reducible refine gate_dst (N := 6) rfl ?_); refine box_event ?hg (N := 6) ?hd (cs := #[.int .i64 0, .int .i64 0]) (t := 49) ?hr ?_; (case hd => rfl); (case hg => rfl); (case hr => first | (go_simp; done) | (go_simp; rfl)); intro gb883 hg w104 hbox hb; have n0_ := Aside0.mk (blk_below (g := gb874) (o := .cells #[.int .i64 0, .int .i64 0] 49 (0, 0)) zf50_2 hb); have n1_ := Aside0.mk (IsS109.below zf50_18 hb); have n2_ := Aside0.mk (below_step zf50_7 hb); have n3_ := Aside0.mk (hbox); have n4_ := Aside0.mk ((by rw [hg]; exact (below_size zf50_7) : w.heap.size ≤ gb883)); have n5_ := Aside0.mk ((by rw [hg]; exact (below_size zf50_7) : w.heap.size ≤ gb883)); have n6_ := Aside0.mk ((zf50_22 : gb874 ≠ gb883)); have n7_ := Aside0.mk ((zf50_23 : gb883 ≠ gb874)); have n8_ := Aside0.mk ((zf50_15 : g878 ≠ gb883)); have n9_ := Aside0.mk ((zf50_16 : gb883 ≠ g878)); clear BK874; clear HI878; clear HB; have BK874 := n0_; have HI878 := n1_; have HB := n2_; have BK883 := n3_; have GW883 := n4_; have GE883 := n5_; have NB874_883 := n6_; have NB883_874 := n7_; have NB878_883 := n8_; have NB883_878 := n9_; clear n0_ n1_ n2_ n3_ n4_ n5_ n6_ n7_ n8_ n9_; clear hb hbox hg; have hnb105 := NB883_874.out; have hnc105 := NB874_883.out; have hnb106 := NB883_878.out; have hnc106 := NB878_883.out; have hcz107_0 : w104.cell? ⟨gb883, 0, none⟩ = some (.int .i64 0) := (blk_cell BK883.out 0).trans rfl; have hcz107_1 : w104.cell? ⟨gb883, 1, none⟩ = some (.int .i64 0) := (blk_cell BK883.out 1).trans rfl; have hfz107_0 := blk_frozen BK883.out 0; have hfz107_1 := blk_frozen BK883.out 1) | ((with_reducible refine gate_callee (f := 86) rfl ?_); refine goesL_ (some 16) rfl rfl Try.func86 (by kernel_rfl) rfl #[.pointer (some ⟨g878, 0, none⟩), .int .i64 8] rfl zf50_4 ?_; (with_reducible refine (spec_l07AnyPieces.calls k g878 t875 t881 t882 8 t884 t887 t888 w _ ?side1 ?side2 A4.out).mono ?_); (case side1 => repeat (first | (with_reducible first | exact HI878.out | apply IsS109.alloc | apply IsS109.drewN | apply IsS109.drew | apply IsS109.set_1 | apply IsS109.set_2 | refine IsS109.far ?_ NB878_874.out _ | refine IsS109.far ?_ NB878_883.out _) | exact HI878.out)); (case side2 => repeat (first | (with_reducible first | exact HB.out | apply below_alloc | apply pw_below_drewN | apply below_drew1 | refine below_set ?_ (IsS109.ge HI878.out) | refine below_set ?_ GE874.out | refine below_set ?_ GE883.out) | exact HB.out)); rintro e w108 ⟨v885, rfl, ho0, hi, hb, hk⟩; refine ⟨_, rfl, ?_⟩; have n0_ := Aside0.mk (KeepBut.blk hk (g' := gb874) (o := .cells #[.int .i64 0, .int .i64 0] 49 (0, 0)) zf50_13 NB874_878.out (by simp)); have n1_ := Aside0.mk (KeepBut.blk hk (g' := gb883) (o := .cells #[.int .i64 t879, .int .i64 t880] 49 (0, 0)) zf50_10 NB883_878.out (by simp)); have n2_ := Aside0.mk (Kd.R_lower (Kd.R_newM (M := fun k_ => (w.heap.size ≤ k_)) ho0 (below_size zf50_0) (fun k_ h_ => h_)) (below_size zf50_0)); have n3_ := Aside0.mk (hb); have n4_ := Aside0.mk (hi); clear BK874; clear BK883; clear HB; clear HI878; have BK874 := n0_; have BK883 := n1_; have HO886 := n2_; have HB := n3_; have HI878 := n4_; clear n0_ n1_ n2_ n3_ n4_; (try clear hb); (try clear hb2); (try clear hk); (try clear hi); (try clear ho0); have hcz109_0 : w108.cell? ⟨gb883, 0, none⟩ = some (.int .i64 t879) := (blk_cell BK883.out 0).trans rfl; have hcz109_1 : w108.cell? ⟨gb883, 1, none⟩ = some (.int .i64 t880) := (blk_cell BK883.out 1).trans rfl; have hfz109_0 := blk_frozen BK883.out 0; have hfz109_1 := blk_frozen BK883.out 1; obtain ⟨Ao110, co110, eo110⟩ := Kd.R_slice HO886.out; subst eo110) | ((with_reducible refine gate_callee (f := 44) rfl ?_); refine goesL_ (some 19) rfl rfl Try.func44 (by kernel_rfl) rfl #[.agg #[.int .i64 t879, .int .i64 t880], .slice Ao110 t884.length co110] rfl zf50_4 ?_; (with_reducible refine (spec_FirstFit.calls k t879 t880 _ _ t884 t889 _ ?side1 ?side2 A5.out).mono ?_); (case side1 => repeat (first | exact (Kd.R_reads' HO886.out).2.2 | (with_reducible refine Kd.C_alloc ?_ _) | (with_reducible refine Kd.C_drewN ?_ _) | (with_reducible refine Kd.C_drew ?_))); (case side2 => exact (Kd.R_reads' HO886.out).2.1); rintro e w111 ⟨v890, rfl, ho0, hb⟩; refine ⟨_, rfl, ?_⟩; have n0_ := Aside0.mk (Kd.R_below zf50_6 hb); have n1_ := Aside0.mk (Kd.N_lower (Kd.N_mono (ok' := fun k_ => (w.heap.size ≤ k_) ∧ some k_ ≠ (.slice Ao110 t884.length co110 : Value).ownBlock ∧ k_ ≠ gb874 ∧ k_ ≠ gb883 ∧ k_ ≠ g878) ho0 (fun k_ hk_ => ⟨(Nat.le_trans (below_size zf50_0) hk_), (Kd.fresh' (Kd.R_lt zf50_6) k_ hk_), (Kd.freshB (g := gb874) (o := .cells #[.int .i64 0, .int .i64 0] 49 (0, 0)) zf50_2 k_ hk_), (Kd.freshB (g := gb883) (o := .cells #[.int .i64 t879, .int .i64 t880] 49 (0, 0)) zf50_5 k_ hk_), (IsS109.fresh zf50_3 k_ hk_)⟩)) (below_size zf50_0)); have n2_ := Aside0.mk (blk_below (g := gb874) (o := .cells #[.int .i64 0, .int .i64 0] 49 (0, 0)) zf50_2 hb); have n3_ := Aside0.mk (IsS109.below zf50_3 hb); have n4_ := Aside0.mk (blk_below (g := gb883) (o := .cells #[.int .i64 t879, .int .i64 t880] 49 (0, 0)) zf50_5 hb); have n5_ := Aside0.mk (below_step zf50_0 hb); clear HO886; clear BK874; clear HI878; clear BK883; clear HB; have HO886 := n0_; have HO891 := n1_; have BK874 := n2_; have HI878 := n3_; have BK883 := n4_; have HB := n5_; clear n0_ n1_ n2_ n3_ n4_ n5_; (try clear hb); (try clear hb2); (try clear hk); (try clear hi); (try clear ho0); obtain ⟨Ao112, co112, eo112⟩ := Kd.N_slice HO891.out; subst eo112) | ((with_reducible refine gate_callee (f := 87) rfl ?_); refine goesL_ (some 26) rfl rfl Try.func87 (by kernel_rfl) rfl #[.pointer (some ⟨g878, 0, none⟩), .int .i64 (t889.length : Int)] rfl zf50_4 ?_; (with_reducible refine (spec_l01Below.calls g878 t875 t887 t888 (t889.length : Int) t892 t893 t894 w _ ?side1 ?side2 A7.out).mono ?_); (case side1 => repeat (first | (with_reducible first | exact HI878.out | apply IsS109.alloc | apply IsS109.drewN | apply IsS109.drew | apply IsS109.set_1 | apply IsS109.set_2 | refine IsS109.far ?_ NB878_874.out _ | refine IsS109.far ?_ NB878_883.out _) | exact HI878.out)); (case side2 => repeat (first | (with_reducible first | exact HB.out | apply below_alloc | apply pw_below_drewN | apply below_drew1 | refine below_set ?_ (IsS109.ge HI878.out) | refine below_set ?_ GE874.out | refine below_set ?_ GE883.out) | exact HB.out)); rintro e w113 ⟨rfl, hi, hb, hk⟩; refine ⟨_, rfl, ?_⟩; have n0_ := Aside0.mk (KeepBut.blk hk (g' := gb874) (o := .cells #[.int .i64 0, .int .i64 0] 49 (0, 0)) zf50_2 NB874_878.out (by simp)); have n1_ := Aside0.mk (KeepBut.blk hk (g' := gb883) (o := .cells #[.int .i64 t879, .int .i64 t880] 49 (0, 0)) zf50_5 NB883_878.out (by simp)); have n2_ := Aside0.mk (Kd.R_mono (Kd.R_keep (IsS109.apart (show IsS109 w _ g878 t875 t887 t888 from by repeat (first | (with_reducible first | exact HI878.out | apply IsS109.alloc | apply IsS109.drewN | apply IsS109.drew | apply IsS109.set_1 | apply IsS109.set_2 | refine IsS109.far ?_ NB878_874.out _ | refine IsS109.far ?_ NB878_883.out _) | exact HI878.out)) zf50_6 (by decide)) hk (fun _ h => h.2)) (fun _ h => h.1)); have n3_ := Aside0.mk (Kd.N_mono (Kd.N_keep (Kd.N_mono (ok := fun k_ => (((w.heap.size ≤ k_)) ∧ (some k_ ≠ (.slice Ao110 t884.length co110 : Value).ownBlock ∧ (k_ ≠ gb874 ∧ (k_ ≠ gb883 ∧ k_ ≠ g878))))) zf50_14 (fun k_ hk_ => (⟨hk_, hk_.2.2.2.2⟩ : _ ∧ k_ ≠ g878))) hk (fun _ h => h.2)) (fun _ h => h.1)); have n4_ := Aside0.mk (hb); have n5_ := Aside0.mk (hi); clear BK874; clear BK883; clear HO886; clear HO891; clear HB; clear HI878; have BK874 := n0_; have BK883 := n1_; have HO886 := n2_; have HO891 := n3_; have HB := n4_; have HI878 := n5_; clear n0_ n1_ n2_ n3_ n4_ n5_; (try clear hb); (try clear hb2); (try clear hk); (try clear hi)) | ((with_reducible refine gate_callee (f := 87) rfl ?_); refine goesL_ (some 28) rfl rfl Try.func87 (by kernel_rfl) rfl #[.pointer (some ⟨g878, 0, none⟩), .int .i64 8] rfl zf50_4 ?_; (with_reducible refine (spec_l01Below.calls g878 t875 t893 t894 8 t895 t896 t897 w _ ?side1 ?side2 A8.out).mono ?_); (case side1 => repeat (first | (with_reducible first | exact HI878.out | apply IsS109.alloc | apply IsS109.drewN | apply IsS109.drew | apply IsS109.set_1 | apply IsS109.set_2 | refine IsS109.far ?_ NB878_874.out _ | refine IsS109.far ?_ NB878_883.out _) | exact HI878.out)); (case side2 => repeat (first | (with_reducible first | exact HB.out | apply below_alloc | apply pw_below_drewN | apply below_drew1 | refine below_set ?_ (IsS109.ge HI878.out) | refine below_set ?_ GE874.out | refine below_set ?_ GE883.out) | exact HB.out)); rintro e w114 ⟨rfl, hi, hb, hk⟩; refine ⟨_, rfl, ?_⟩; have n0_ := Aside0.mk (KeepBut.blk hk (g' := gb874) (o := .cells #[.int .i64 0, .int .i64 0] 49 (0, 0)) zf50_2 NB874_878.out (by simp)); have n1_ := Aside0.mk (KeepBut.blk hk (g' := gb883) (o := .cells #[.int .i64 t879, .int .i64 t880] 49 (0, 0)) zf50_5 NB883_878.out (by simp)); have n2_ := Aside0.mk (Kd.R_mono (Kd.R_keep (IsS109.apart (show IsS109 w _ g878 t875 t893 t894 from by repeat (first | (with_reducible first | exact HI878.out | apply IsS109.alloc | apply IsS109.drewN | apply IsS109.drew | apply IsS109.set_1 | apply IsS109.set_2 | refine IsS109.far ?_ NB878_874.out _ | refine IsS109.far ?_ NB878_883.out _) | exact HI878.out)) zf50_6 (by decide)) hk (fun _ h => h.2)) (fun _ h => h.1)); have n3_ := Aside0.mk (Kd.N_mono (Kd.N_keep (Kd.N_mono (ok := fun k_ => (((w.heap.size ≤ k_)) ∧ (some k_ ≠ (.slice Ao110 t884.length co110 : Value).ownBlock ∧ (k_ ≠ gb874 ∧ (k_ ≠ gb883 ∧ k_ ≠ g878))))) zf50_14 (fun k_ hk_ => (⟨hk_, hk_.2.2.2.2⟩ : _ ∧ k_ ≠ g878))) hk (fun _ h => h.2)) (fun _ h => h.1)); have n4_ := Aside0.mk (hb); have n5_ := Aside0.mk (hi); clear BK874; clear BK883; clear HO886; clear HO891; clear HB; clear HI878; have BK874 := n0_; have BK883 := n1_; have HO886 := n2_; have HO891 := n3_; have HB := n4_; have HI878 := n5_; clear n0_ n1_ n2_ n3_ n4_ n5_; (try clear hb); (try clear hb2); (try clear hk); (try clear hi); have q115 : ((ji98) : Int) ≤ ((t889.length : Int) : Int) := of_decide_eq_true zf50_17; obtain ⟨i0115, hi0115, _, hsz115, _⟩ := info_parts info62; have hcut115 := cut_to (P := Try.prog) 52 62 .i64 Try.underlying52 hi0115 Ao112 t889.length co112 (ji98) (of_decide_eq_true zf50_17) q115 (Kd.N_reads' HO891.out).2.1; have hr115 := Kd.N_take (m := ((ji98) : Int).toNat) HO891.out (by omega); have hy115 : y924.length = ((ji98) : Int).toNat := (by rw [Ny924.out, List.length_take]; omega); rw [← Ny924.out] at hr115; rw [← hy115] at hr115 hcut115; clear hy115 hi0115 hsz115 HO891; have HO926 := Aside0.mk hr115; clear hr115; replace q115 := eq_true q115; have hcz116_0 : w114.cell? ⟨gb883, 0, none⟩ = some (.int .i64 t879) := (blk_cell BK883.out 0).trans rfl; have hcz116_1 : w114.cell? ⟨gb883, 1, none⟩ = some (.int .i64 t880) := (blk_cell BK883.out 1).trans rfl; have hfz116_0 := blk_frozen BK883.out 0; have hfz116_1 := blk_frozen BK883.out 1; have hnb117 := NB874_878.out; have hnc117 := NB878_874.out; have hcz118_0 : w114.cell? ⟨gb874, 0, none⟩ = some (.int .i64 0) := (blk_cell BK874.out 0).trans rfl; have hcz118_1 : w114.cell? ⟨gb874, 1, none⟩ = some (.int .i64 0) := (blk_cell BK874.out 1).trans rfl; have hfz118_0 := blk_frozen BK874.out 0; have hfz118_1 := blk_frozen BK874.out 1))
        refine bodyPost_ret (results_ctt rfl _ _ gb874 49 #[.int .i64 t879, .int .i64 t880] (0, 0) _ rfl zf50_11 Try.underlying49 rfl (by kernel_rfl)) rfl ?_
        exact ⟨_, _, by first | rfl | (simp [errW_none, errW_some] <;> rfl) | (simp only [← hji98]; first | rfl | (simp [errW_none, errW_some] <;> rfl)) | (simp [*, errW_none, errW_some] <;> rfl), by (with_reducible repeat (first | apply Kd.R_alloc | apply Kd.R_drewN | apply Kd.R_drew)); exact Kd.R_mono (Kd.R_far (p := ⟨gb874, 1, none⟩) (Kd.R_far (p := ⟨gb874, 0, none⟩) (Kd.R_types HO886.out BK874.out (by decide)) (fun _ hk => hk.2) (.int .i64 t879)) (fun _ hk => hk.2) (.int .i64 t880)) (fun _ hk => hk.1.1), by (with_reducible repeat (first | apply Kd.N_alloc | apply Kd.N_drewN | apply Kd.N_drew)); exact Kd.N_mono (Kd.N_far (p := ⟨gb874, 1, none⟩) (Kd.N_far (p := ⟨gb874, 0, none⟩) (Kd.N_mono HO926.out (fun k_ hk => (⟨hk, hk.2.2.1⟩ : _ ∧ k_ ≠ gb874))) (fun _ hk => hk.2) (.int .i64 t879)) (fun _ hk => hk.2) (.int .i64 t880)) (fun _ hk => ⟨hk.1.1, hk.1.2.1⟩), by repeat (first | (with_reducible first | exact HB.out | apply below_alloc | apply pw_below_drewN | apply below_drew1 | refine below_set ?_ (IsS109.ge HI878.out) | refine below_set ?_ GE874.out | refine below_set ?_ GE883.out) | exact HB.out)⟩
       ·
        rw [if_neg c100] at H
        exact absurd H (by simp)
      ·
       rw [if_neg c99] at H
       exact absurd H (by simp)
     ·
      rw [if_neg c97] at H
      have c97b0 : (t895 == 3) = false := beq_eq_false_iff_ne.mpr c97
      have c97b1 : (t895 != 3) = true := bne_iff_ne.mpr c97
      by_cases c119 : t895 = 4
      ·
       rw [if_pos c119] at H
       have c119b0 : (t895 == 4) = true := beq_iff_eq.mpr c119
       have c119b1 : (t895 != 4) = false := bne_eq_false_iff_eq.mpr c119
       clear c119
       obtain ⟨y927, hy927⟩ : ∃ y_ : List (S62), y_ = (([(⟨0, 0, ([] : List Int)⟩ : S62)] : List (S62))) := ⟨_, rfl⟩
       replace H : (if t889.length + y927.length < 3518437208883 then (some (t879, t880, t884, (t889 ++ y927))) else (none)) = some (r1, r2, r3, r4) := by first | (rw [hy927]; with_reducible exact H) | (have H2_ := (Option.bind_some _ _).symm.trans H; rw [hy927]; with_reducible exact H2_) | (have H2_ := (Option.bind_some _ _).symm.trans H; with_reducible exact H2_) | with_reducible exact H | (rw [hy927]; exact H) | exact H
       have Ny927 := Aside0.mk hy927
       clear hy927
       by_cases c120 : t889.length + y927.length < 3518437208883
       ·
        rw [if_pos c120] at H
        have LMc120 := Aside0.mk c120
        clear c120
        obtain ⟨y930, hy930⟩ : ∃ y_ : List (S62), y_ = (t889 ++ y927) := ⟨_, rfl⟩
        replace H : (some (t879, t880, t884, y930)) = some (r1, r2, r3, r4) := by first | (rw [hy930]; with_reducible exact H) | (have H2_ := (Option.bind_some _ _).symm.trans H; rw [hy930]; with_reducible exact H2_) | (have H2_ := (Option.bind_some _ _).symm.trans H; with_reducible exact H2_) | with_reducible exact H | (rw [hy930]; exact H) | exact H
        have Ny930 := Aside0.mk hy930
        clear hy930
        simp only [Option.some.injEq, Prod.mk.injEq] at H
        obtain ⟨rfl, rfl, rfl, rfl⟩ := H
        go_enter Try.func50, Try.ntmps50
        go_wp2_with (first | ((with_reducible refine gate_dst (N := 2) rfl ?_); refine box_event ?hg (N := 2) ?hd (cs := #[.int .i64 0, .int .i64 0]) (t := 49) ?hr ?_; (case hd => rfl); (case hg => rfl); (case hr => first | (go_simp; done) | (go_simp; rfl)); intro gb874 hg w121 hbox hb; have n0_ := Aside0.mk (below_step zf50_12 hb); have n1_ := Aside0.mk (hbox); have n2_ := Aside0.mk ((zf50_27 : w.heap.size ≤ gb874)); have n3_ := Aside0.mk ((zf50_27 : w.heap.size ≤ gb874)); clear HB; have HB := n0_; have BK874 := n1_; have GW874 := n2_; have GE874 := n3_; clear n0_ n1_ n2_ n3_; clear hb hbox hg) | ((with_reducible refine gate_callee (f := 66) rfl ?_); refine goesL_ (some 12) rfl rfl Try.func66 (by kernel_rfl) rfl #[.slice A0 l0.length c0] rfl zf50_4 ?_; (with_reducible refine (spec_l01New.calls k _ _ l0 t875 t876 t877 w _ ?side1 ?side2 ?side3 A2.out).mono ?_); (case side1 => repeat (first | (with_reducible first | exact HB.out | apply below_alloc | apply pw_below_drewN | apply below_drew1 | refine below_set ?_ GE874.out) | exact HB.out)); (case side2 => exact HR0.out); (case side3 => exact HC0.out); rintro e w122 ⟨g878, rfl, hi, hb, hb2⟩; refine ⟨_, rfl, ?_⟩; have n0_ := Aside0.mk (blk_below (g := gb874) (o := .cells #[.int .i64 0, .int .i64 0] 49 (0, 0)) zf50_2 hb2); have n1_ := Aside0.mk (hb); have n2_ := Aside0.mk (hi); have n3_ := Aside0.mk (IsS109.ne_blk hi (blk_below (g := gb874) (o := .cells #[.int .i64 0, .int .i64 0] 49 (0, 0)) zf50_2 hb2) (by decide)); have n4_ := Aside0.mk (Ne.symm (IsS109.ne_blk hi (blk_below (g := gb874) (o := .cells #[.int .i64 0, .int .i64 0] 49 (0, 0)) zf50_2 hb2) (by decide))); clear BK874; clear HB; have BK874 := n0_; have HB := n1_; have HI878 := n2_; have NB878_874 := n3_; have NB874_878 := n4_; clear n0_ n1_ n2_ n3_ n4_; (try clear hb); (try clear hb2); (try clear hk); (try clear hi)) | ((with_reducible refine gate_callee (f := 85) rfl ?_); refine goesL_ (some 14) rfl rfl Try.func85 (by kernel_rfl) rfl #[.pointer (some ⟨g878, 0, none⟩)] rfl zf50_4 ?_; (with_reducible refine (spec_l07AnyLimits.calls g878 t875 t876 t877 t879 t880 t881 t882 w _ ?side1 ?side2 A3.out).mono ?_); (case side1 => repeat (first | (with_reducible first | exact HI878.out | apply IsS109.alloc | apply IsS109.drewN | apply IsS109.drew | apply IsS109.set_1 | apply IsS109.set_2 | refine IsS109.far ?_ NB878_874.out _) | exact HI878.out)); (case side2 => repeat (first | (with_reducible first | exact HB.out | apply below_alloc | apply pw_below_drewN | apply below_drew1 | refine below_set ?_ (IsS109.ge HI878.out) | refine below_set ?_ GE874.out) | exact HB.out)); rintro e w123 ⟨rfl, hi, hb, hk⟩; refine ⟨_, rfl, ?_⟩; have n0_ := Aside0.mk (KeepBut.blk hk (g' := gb874) (o := .cells #[.int .i64 0, .int .i64 0] 49 (0, 0)) zf50_2 NB874_878.out (by simp)); have n1_ := Aside0.mk (hb); have n2_ := Aside0.mk (hi); clear BK874; clear HB; clear HI878; have BK874 := n0_; have HB := n1_; have HI878 := n2_; clear n0_ n1_ n2_; (try clear hb); (try clear hb2); (try clear hk); (try clear hi)) | ((with_reducible refine gate_dst (N := 6) rfl ?_); refine box_event ?hg (N := 6) ?hd (cs := #[.int .i64 0, .int .i64 0]) (t := 49) ?hr ?_; (case hd => rfl); (case hg => rfl); (case hr => first | (go_simp; done) | (go_simp; rfl)); intro gb883 hg w124 hbox hb; have n0_ := Aside0.mk (blk_below (g := gb874) (o := .cells #[.int .i64 0, .int .i64 0] 49 (0, 0)) zf50_2 hb); have n1_ := Aside0.mk (IsS109.below zf50_18 hb); have n2_ := Aside0.mk (below_step zf50_7 hb); have n3_ := Aside0.mk (hbox); have n4_ := Aside0.mk ((by rw [hg]; exact (below_size zf50_7) : w.heap.size ≤ gb883)); have n5_ := Aside0.mk ((by rw [hg]; exact (below_size zf50_7) : w.heap.size ≤ gb883)); have n6_ := Aside0.mk ((zf50_22 : gb874 ≠ gb883)); have n7_ := Aside0.mk ((zf50_23 : gb883 ≠ gb874)); have n8_ := Aside0.mk ((zf50_15 : g878 ≠ gb883)); have n9_ := Aside0.mk ((zf50_16 : gb883 ≠ g878)); clear BK874; clear HI878; clear HB; have BK874 := n0_; have HI878 := n1_; have HB := n2_; have BK883 := n3_; have GW883 := n4_; have GE883 := n5_; have NB874_883 := n6_; have NB883_874 := n7_; have NB878_883 := n8_; have NB883_878 := n9_; clear n0_ n1_ n2_ n3_ n4_ n5_ n6_ n7_ n8_ n9_; clear hb hbox hg; have hnb125 := NB883_874.out; have hnc125 := NB874_883.out; have hnb126 := NB883_878.out; have hnc126 := NB878_883.out; have hcz127_0 : w124.cell? ⟨gb883, 0, none⟩ = some (.int .i64 0) := (blk_cell BK883.out 0).trans rfl; have hcz127_1 : w124.cell? ⟨gb883, 1, none⟩ = some (.int .i64 0) := (blk_cell BK883.out 1).trans rfl; have hfz127_0 := blk_frozen BK883.out 0; have hfz127_1 := blk_frozen BK883.out 1) | ((with_reducible refine gate_callee (f := 86) rfl ?_); refine goesL_ (some 16) rfl rfl Try.func86 (by kernel_rfl) rfl #[.pointer (some ⟨g878, 0, none⟩), .int .i64 8] rfl zf50_4 ?_; (with_reducible refine (spec_l07AnyPieces.calls k g878 t875 t881 t882 8 t884 t887 t888 w _ ?side1 ?side2 A4.out).mono ?_); (case side1 => repeat (first | (with_reducible first | exact HI878.out | apply IsS109.alloc | apply IsS109.drewN | apply IsS109.drew | apply IsS109.set_1 | apply IsS109.set_2 | refine IsS109.far ?_ NB878_874.out _ | refine IsS109.far ?_ NB878_883.out _) | exact HI878.out)); (case side2 => repeat (first | (with_reducible first | exact HB.out | apply below_alloc | apply pw_below_drewN | apply below_drew1 | refine below_set ?_ (IsS109.ge HI878.out) | refine below_set ?_ GE874.out | refine below_set ?_ GE883.out) | exact HB.out)); rintro e w128 ⟨v885, rfl, ho0, hi, hb, hk⟩; refine ⟨_, rfl, ?_⟩; have n0_ := Aside0.mk (KeepBut.blk hk (g' := gb874) (o := .cells #[.int .i64 0, .int .i64 0] 49 (0, 0)) zf50_13 NB874_878.out (by simp)); have n1_ := Aside0.mk (KeepBut.blk hk (g' := gb883) (o := .cells #[.int .i64 t879, .int .i64 t880] 49 (0, 0)) zf50_10 NB883_878.out (by simp)); have n2_ := Aside0.mk (Kd.R_lower (Kd.R_newM (M := fun k_ => (w.heap.size ≤ k_)) ho0 (below_size zf50_0) (fun k_ h_ => h_)) (below_size zf50_0)); have n3_ := Aside0.mk (hb); have n4_ := Aside0.mk (hi); clear BK874; clear BK883; clear HB; clear HI878; have BK874 := n0_; have BK883 := n1_; have HO886 := n2_; have HB := n3_; have HI878 := n4_; clear n0_ n1_ n2_ n3_ n4_; (try clear hb); (try clear hb2); (try clear hk); (try clear hi); (try clear ho0); have hcz129_0 : w128.cell? ⟨gb883, 0, none⟩ = some (.int .i64 t879) := (blk_cell BK883.out 0).trans rfl; have hcz129_1 : w128.cell? ⟨gb883, 1, none⟩ = some (.int .i64 t880) := (blk_cell BK883.out 1).trans rfl; have hfz129_0 := blk_frozen BK883.out 0; have hfz129_1 := blk_frozen BK883.out 1; obtain ⟨Ao130, co130, eo130⟩ := Kd.R_slice HO886.out; subst eo130) | ((with_reducible refine gate_callee (f := 44) rfl ?_); refine goesL_ (some 19) rfl rfl Try.func44 (by kernel_rfl) rfl #[.agg #[.int .i64 t879, .int .i64 t880], .slice Ao130 t884.length co130] rfl zf50_4 ?_; (with_reducible refine (spec_FirstFit.calls k t879 t880 _ _ t884 t889 _ ?side1 ?side2 A5.out).mono ?_); (case side1 => repeat (first | exact (Kd.R_reads' HO886.out).2.2 | (with_reducible refine Kd.C_alloc ?_ _) | (with_reducible refine Kd.C_drewN ?_ _) | (with_reducible refine Kd.C_drew ?_))); (case side2 => exact (Kd.R_reads' HO886.out).2.1); rintro e w131 ⟨v890, rfl, ho0, hb⟩; refine ⟨_, rfl, ?_⟩; have n0_ := Aside0.mk (Kd.R_below zf50_6 hb); have n1_ := Aside0.mk (Kd.N_lower (Kd.N_mono (ok' := fun k_ => (w.heap.size ≤ k_) ∧ some k_ ≠ (.slice Ao130 t884.length co130 : Value).ownBlock ∧ k_ ≠ gb874 ∧ k_ ≠ gb883 ∧ k_ ≠ g878) ho0 (fun k_ hk_ => ⟨(Nat.le_trans (below_size zf50_0) hk_), (Kd.fresh' (Kd.R_lt zf50_6) k_ hk_), (Kd.freshB (g := gb874) (o := .cells #[.int .i64 0, .int .i64 0] 49 (0, 0)) zf50_2 k_ hk_), (Kd.freshB (g := gb883) (o := .cells #[.int .i64 t879, .int .i64 t880] 49 (0, 0)) zf50_5 k_ hk_), (IsS109.fresh zf50_3 k_ hk_)⟩)) (below_size zf50_0)); have n2_ := Aside0.mk (blk_below (g := gb874) (o := .cells #[.int .i64 0, .int .i64 0] 49 (0, 0)) zf50_2 hb); have n3_ := Aside0.mk (IsS109.below zf50_3 hb); have n4_ := Aside0.mk (blk_below (g := gb883) (o := .cells #[.int .i64 t879, .int .i64 t880] 49 (0, 0)) zf50_5 hb); have n5_ := Aside0.mk (below_step zf50_0 hb); clear HO886; clear BK874; clear HI878; clear BK883; clear HB; have HO886 := n0_; have HO891 := n1_; have BK874 := n2_; have HI878 := n3_; have BK883 := n4_; have HB := n5_; clear n0_ n1_ n2_ n3_ n4_ n5_; (try clear hb); (try clear hb2); (try clear hk); (try clear hi); (try clear ho0); obtain ⟨Ao132, co132, eo132⟩ := Kd.N_slice HO891.out; subst eo132) | ((with_reducible refine gate_callee (f := 87) rfl ?_); refine goesL_ (some 26) rfl rfl Try.func87 (by kernel_rfl) rfl #[.pointer (some ⟨g878, 0, none⟩), .int .i64 (t889.length : Int)] rfl zf50_4 ?_; (with_reducible refine (spec_l01Below.calls g878 t875 t887 t888 (t889.length : Int) t892 t893 t894 w _ ?side1 ?side2 A7.out).mono ?_); (case side1 => repeat (first | (with_reducible first | exact HI878.out | apply IsS109.alloc | apply IsS109.drewN | apply IsS109.drew | apply IsS109.set_1 | apply IsS109.set_2 | refine IsS109.far ?_ NB878_874.out _ | refine IsS109.far ?_ NB878_883.out _) | exact HI878.out)); (case side2 => repeat (first | (with_reducible first | exact HB.out | apply below_alloc | apply pw_below_drewN | apply below_drew1 | refine below_set ?_ (IsS109.ge HI878.out) | refine below_set ?_ GE874.out | refine below_set ?_ GE883.out) | exact HB.out)); rintro e w133 ⟨rfl, hi, hb, hk⟩; refine ⟨_, rfl, ?_⟩; have n0_ := Aside0.mk (KeepBut.blk hk (g' := gb874) (o := .cells #[.int .i64 0, .int .i64 0] 49 (0, 0)) zf50_2 NB874_878.out (by simp)); have n1_ := Aside0.mk (KeepBut.blk hk (g' := gb883) (o := .cells #[.int .i64 t879, .int .i64 t880] 49 (0, 0)) zf50_5 NB883_878.out (by simp)); have n2_ := Aside0.mk (Kd.R_mono (Kd.R_keep (IsS109.apart (show IsS109 w _ g878 t875 t887 t888 from by repeat (first | (with_reducible first | exact HI878.out | apply IsS109.alloc | apply IsS109.drewN | apply IsS109.drew | apply IsS109.set_1 | apply IsS109.set_2 | refine IsS109.far ?_ NB878_874.out _ | refine IsS109.far ?_ NB878_883.out _) | exact HI878.out)) zf50_6 (by decide)) hk (fun _ h => h.2)) (fun _ h => h.1)); have n3_ := Aside0.mk (Kd.N_mono (Kd.N_keep (Kd.N_mono (ok := fun k_ => (((w.heap.size ≤ k_)) ∧ (some k_ ≠ (.slice Ao130 t884.length co130 : Value).ownBlock ∧ (k_ ≠ gb874 ∧ (k_ ≠ gb883 ∧ k_ ≠ g878))))) zf50_14 (fun k_ hk_ => (⟨hk_, hk_.2.2.2.2⟩ : _ ∧ k_ ≠ g878))) hk (fun _ h => h.2)) (fun _ h => h.1)); have n4_ := Aside0.mk (hb); have n5_ := Aside0.mk (hi); clear BK874; clear BK883; clear HO886; clear HO891; clear HB; clear HI878; have BK874 := n0_; have BK883 := n1_; have HO886 := n2_; have HO891 := n3_; have HB := n4_; have HI878 := n5_; clear n0_ n1_ n2_ n3_ n4_ n5_; (try clear hb); (try clear hb2); (try clear hk); (try clear hi)) | ((with_reducible refine gate_callee (f := 87) rfl ?_); refine goesL_ (some 28) rfl rfl Try.func87 (by kernel_rfl) rfl #[.pointer (some ⟨g878, 0, none⟩), .int .i64 8] rfl zf50_4 ?_; (with_reducible refine (spec_l01Below.calls g878 t875 t893 t894 8 t895 t896 t897 w _ ?side1 ?side2 A8.out).mono ?_); (case side1 => repeat (first | (with_reducible first | exact HI878.out | apply IsS109.alloc | apply IsS109.drewN | apply IsS109.drew | apply IsS109.set_1 | apply IsS109.set_2 | refine IsS109.far ?_ NB878_874.out _ | refine IsS109.far ?_ NB878_883.out _) | exact HI878.out)); (case side2 => repeat (first | (with_reducible first | exact HB.out | apply below_alloc | apply pw_below_drewN | apply below_drew1 | refine below_set ?_ (IsS109.ge HI878.out) | refine below_set ?_ GE874.out | refine below_set ?_ GE883.out) | exact HB.out)); rintro e w134 ⟨rfl, hi, hb, hk⟩; refine ⟨_, rfl, ?_⟩; have n0_ := Aside0.mk (KeepBut.blk hk (g' := gb874) (o := .cells #[.int .i64 0, .int .i64 0] 49 (0, 0)) zf50_2 NB874_878.out (by simp)); have n1_ := Aside0.mk (KeepBut.blk hk (g' := gb883) (o := .cells #[.int .i64 t879, .int .i64 t880] 49 (0, 0)) zf50_5 NB883_878.out (by simp)); have n2_ := Aside0.mk (Kd.R_mono (Kd.R_keep (IsS109.apart (show IsS109 w _ g878 t875 t893 t894 from by repeat (first | (with_reducible first | exact HI878.out | apply IsS109.alloc | apply IsS109.drewN | apply IsS109.drew | apply IsS109.set_1 | apply IsS109.set_2 | refine IsS109.far ?_ NB878_874.out _ | refine IsS109.far ?_ NB878_883.out _) | exact HI878.out)) zf50_6 (by decide)) hk (fun _ h => h.2)) (fun _ h => h.1)); have n3_ := Aside0.mk (Kd.N_mono (Kd.N_keep (Kd.N_mono (ok := fun k_ => (((w.heap.size ≤ k_)) ∧ (some k_ ≠ (.slice Ao130 t884.length co130 : Value).ownBlock ∧ (k_ ≠ gb874 ∧ (k_ ≠ gb883 ∧ k_ ≠ g878))))) zf50_14 (fun k_ hk_ => (⟨hk_, hk_.2.2.2.2⟩ : _ ∧ k_ ≠ g878))) hk (fun _ h => h.2)) (fun _ h => h.1)); have n4_ := Aside0.mk (hb); have n5_ := Aside0.mk (hi); clear BK874; clear BK883; clear HO886; clear HO891; clear HB; clear HI878; have BK874 := n0_; have BK883 := n1_; have HO886 := n2_; have HO891 := n3_; have HB := n4_; have HI878 := n5_; clear n0_ n1_ n2_ n3_ n4_ n5_; (try clear hb); (try clear hb2); (try clear hk); (try clear hi)) | ((with_reducible refine gate_dst (N := 88) rfl ?_); refine Kd.N_lit k62 _ 62 ?hg (N' := 88) ?hd (xs := ([(⟨0, 0, ([] : List Int)⟩ : S62)] : List (S62))) (inner := [.int .i64 0, .int .i64 0, .slice none 0 0]) (ok := (fun k_ => (w.heap.size ≤ k_) ∧ some k_ ≠ (.slice Ao130 t884.length co130 : Value).ownBlock ∧ some k_ ≠ (.slice Ao132 t889.length co132 : Value).ownBlock ∧ k_ ≠ gb874 ∧ k_ ≠ gb883 ∧ k_ ≠ g878)) (okp := (fun k_ => (w.heap.size ≤ k_) ∧ some k_ ≠ (.slice Ao130 t884.length co130 : Value).ownBlock ∧ some k_ ≠ (.slice Ao132 t889.length co132 : Value).ownBlock ∧ k_ ≠ gb874 ∧ k_ ≠ gb883 ∧ k_ ≠ g878)) ?hr ?hp (fun _ hk => hk) ((show ∀ k_, w134.heap.size ≤ k_ → (fun k_ => (w.heap.size ≤ k_) ∧ some k_ ≠ (.slice Ao130 t884.length co130 : Value).ownBlock ∧ some k_ ≠ (.slice Ao132 t889.length co132 : Value).ownBlock ∧ k_ ≠ gb874 ∧ k_ ≠ gb883 ∧ k_ ≠ g878) k_ from fun k_ hk => ⟨(Nat.le_trans (below_size zf50_0) hk), Kd.fresh' (Kd.R_lt zf50_6) k_ hk, Kd.fresh' (Kd.N_lt zf50_14) k_ hk, Kd.freshB (g := gb874) (o := .cells #[.int .i64 0, .int .i64 0] 49 (0, 0)) zf50_2 k_ hk, Kd.freshB (g := gb883) (o := .cells #[.int .i64 t879, .int .i64 t880] 49 (0, 0)) zf50_5 k_ hk, IsS109.fresh zf50_3 k_ hk⟩) _ (Nat.le_refl _)) (Below.refl _ _) (Nat.le_refl _) (by simp) ?_; (case hd => rfl); (case hg => rfl); (case hr => first | (go_simp; done) | (go_simp; rfl)); (case hp => exact (Reps.c3 (show Kd.FK k62 _ _ (⟨0, 0, ([] : List Int)⟩ : S62) [.int .i64 0, .int .i64 0, .slice none 0 0] from (k62_mkF _ _ (⟨0, 0, ([] : List Int)⟩ : S62) (Nat.le_refl _) (Kd.F_nil _ _ _))) (Reps.none _ _))); intro v928 w135 ho136 hb hg_ hnew_; clear hg_ hnew_; (first | rw [← Ny927.out] at ho136 | (simp only [Int.reduceToNat] at ho136; rw [← Ny927.out] at ho136)); have n0_ := Aside0.mk (Kd.R_below zf50_6 hb); have n1_ := Aside0.mk (Kd.N_elder' zf50_14 (Kd.N_base ho136) hb); have n2_ := Aside0.mk (Kd.N_lower ho136 (below_size zf50_0)); have n3_ := Aside0.mk (blk_below (g := gb874) (o := .cells #[.int .i64 0, .int .i64 0] 49 (0, 0)) zf50_2 hb); have n4_ := Aside0.mk (IsS109.below zf50_3 hb); have n5_ := Aside0.mk (blk_below (g := gb883) (o := .cells #[.int .i64 t879, .int .i64 t880] 49 (0, 0)) zf50_5 hb); have n6_ := Aside0.mk (below_step zf50_0 hb); clear HO886; clear HO891; clear BK874; clear HI878; clear BK883; clear HB; have HO886 := n0_; have HO891 := n1_; have HO929 := n2_; have BK874 := n3_; have HI878 := n4_; have BK883 := n5_; have HB := n6_; clear n0_ n1_ n2_ n3_ n4_ n5_ n6_; clear hb ho136; obtain ⟨Ao138, co138, eo138⟩ := Kd.N_slice HO929.out; subst eo138) | ((with_reducible refine gate_builtin (b := .append) (xs := #[.tmp 86, .tmp 88]) rfl ?_); at_builtin; refine Kd.N_append_rows k62 (w0 := w) w.heap.size rfl (.tmp 86) (.tmp 88) 52 62 (.agg #[(.int .i64 0), (.int .i64 0), (.slice none 0 0)]) 40 rfl Try.underlying52 info62 rfl (by decide) (by omega) (.slice Ao132 t889.length co132) t889 y927 _ _ _ (fun k_ => (w.heap.size ≤ k_) ∧ some k_ ≠ (.slice Ao130 t884.length co130 : Value).ownBlock ∧ k_ ≠ gb874 ∧ k_ ≠ gb883 ∧ k_ ≠ g878) (fun k_ => ((fun k_ => (w.heap.size ≤ k_) ∧ some k_ ≠ (.slice Ao130 t884.length co130 : Value).ownBlock ∧ k_ ≠ gb874 ∧ k_ ≠ gb883 ∧ k_ ≠ g878)) k_ ∧ some k_ ≠ (.slice Ao132 t889.length co132 : Value).ownBlock) rfl rfl ?aO ?aR (fun _ hk => hk) ?aF ?aB ?aS ?aL ?_; (case aR => exact (by skip; exact Kd.N_F (Kd.N_mono (ok' := (fun k_ => ((fun k_ => (w.heap.size ≤ k_) ∧ some k_ ≠ (.slice Ao130 t884.length co130 : Value).ownBlock ∧ k_ ≠ gb874 ∧ k_ ≠ gb883 ∧ k_ ≠ g878)) k_ ∧ some k_ ≠ (.slice Ao132 t889.length co132 : Value).ownBlock)) (HO929.out) (fun k_ hk => ⟨⟨hk.1, ⟨hk.2.1, ⟨hk.2.2.2.1, ⟨hk.2.2.2.2.1, hk.2.2.2.2.2⟩⟩⟩⟩, hk.2.2.1⟩)))); (case aB => exact zf50_0); (case aF => exact (fun k_ hk => ⟨(Nat.le_trans (below_size zf50_0) hk), Kd.fresh' (Kd.R_lt zf50_6) k_ hk, Kd.freshB (g := gb874) (o := .cells #[.int .i64 0, .int .i64 0] 49 (0, 0)) zf50_2 k_ hk, Kd.freshB (g := gb883) (o := .cells #[.int .i64 t879, .int .i64 t880] 49 (0, 0)) zf50_5 k_ hk, IsS109.fresh zf50_3 k_ hk⟩)); (case aO => exact (by (with_reducible repeat (first | apply Kd.N_alloc | apply Kd.N_drewN | apply Kd.N_drew)); exact Kd.N_mono HO891.out (fun _ hk => ⟨hk.1.1, ⟨hk.1.2.1, ⟨hk.1.2.2.1, ⟨hk.1.2.2.2.1, hk.1.2.2.2.2⟩⟩⟩⟩))); (case aS => exact (below_size zf50_0)); (case aL => have := LMc120.out; omega); intro v931 w137 ho hb hg hat; rw [← Ny930.out] at ho; have n0_ := Aside0.mk (blk_grown (g := gb874) (o := .cells #[.int .i64 0, .int .i64 0] 49 (0, 0)) zf50_2 hg (Kd.N_ne HO891.out BK874.out (by decide))); have n1_ := Aside0.mk (IsS109.grown zf50_3 hg (IsS109.own_neN HI878.out HO891.out (by decide))); have n2_ := Aside0.mk (blk_grown (g := gb883) (o := .cells #[.int .i64 t879, .int .i64 t880] 49 (0, 0)) zf50_5 hg (Kd.N_ne HO891.out BK883.out (by decide))); have n3_ := Aside0.mk (Kd.R_over' zf50_6 (Kd.N_typed zf50_14) (by decide) hg); have n4_ := Aside0.mk (Kd.N_afterv (ok := (fun k_ => (w.heap.size ≤ k_) ∧ some k_ ≠ (.slice Ao130 t884.length co130 : Value).ownBlock ∧ k_ ≠ gb874 ∧ k_ ≠ gb883 ∧ k_ ≠ g878)) (by (with_reducible repeat (first | apply Kd.N_alloc | apply Kd.N_drewN | apply Kd.N_drew)); exact Kd.N_mono HO929.out (fun _ hk => ⟨⟨hk.1, ⟨hk.2.1, ⟨hk.2.2.2.1, ⟨hk.2.2.2.2.1, hk.2.2.2.2.2⟩⟩⟩⟩, hk.2.2.1⟩)) hg hat); have n5_ := Aside0.mk (hb); have n6_ := Aside0.mk (ho); clear BK874; clear HI878; clear BK883; clear HO886; clear HO929; clear HB; clear HO891; have BK874 := n0_; have HI878 := n1_; have BK883 := n2_; have HO886 := n3_; have HO929 := n4_; have HB := n5_; have HO932 := n6_; clear n0_ n1_ n2_ n3_ n4_ n5_ n6_; clear ho hb hg hat; have hcz139_0 : w137.cell? ⟨gb883, 0, none⟩ = some (.int .i64 t879) := (blk_cell BK883.out 0).trans rfl; have hcz139_1 : w137.cell? ⟨gb883, 1, none⟩ = some (.int .i64 t880) := (blk_cell BK883.out 1).trans rfl; have hfz139_0 := blk_frozen BK883.out 0; have hfz139_1 := blk_frozen BK883.out 1; have hnb140 := NB874_878.out; have hnc140 := NB878_874.out; have hcz141_0 : w137.cell? ⟨gb874, 0, none⟩ = some (.int .i64 0) := (blk_cell BK874.out 0).trans rfl; have hcz141_1 : w137.cell? ⟨gb874, 1, none⟩ = some (.int .i64 0) := (blk_cell BK874.out 1).trans rfl; have hfz141_0 := blk_frozen BK874.out 0; have hfz141_1 := blk_frozen BK874.out 1))
        refine bodyPost_ret (results_ctt rfl _ _ gb874 49 #[.int .i64 t879, .int .i64 t880] (0, 0) _ rfl zf50_11 Try.underlying49 rfl (by kernel_rfl)) rfl ?_
        exact ⟨_, _, by first | rfl | (simp [errW_none, errW_some] <;> rfl) | (simp [*, errW_none, errW_some] <;> rfl), by (with_reducible repeat (first | apply Kd.R_alloc | apply Kd.R_drewN | apply Kd.R_drew)); exact Kd.R_mono (Kd.R_far (p := ⟨gb874, 1, none⟩) (Kd.R_far (p := ⟨gb874, 0, none⟩) (Kd.R_types HO886.out BK874.out (by decide)) (fun _ hk => hk.2) (.int .i64 t879)) (fun _ hk => hk.2) (.int .i64 t880)) (fun _ hk => hk.1.1), by (with_reducible repeat (first | apply Kd.N_alloc | apply Kd.N_drewN | apply Kd.N_drew)); exact Kd.N_mono (Kd.N_far (p := ⟨gb874, 1, none⟩) (Kd.N_far (p := ⟨gb874, 0, none⟩) (Kd.N_mono HO932.out (fun k_ hk => (⟨hk, hk.2.2.1⟩ : _ ∧ k_ ≠ gb874))) (fun _ hk => hk.2) (.int .i64 t879)) (fun _ hk => hk.2) (.int .i64 t880)) (fun _ hk => ⟨hk.1.1, hk.1.2.1⟩), by repeat (first | (with_reducible first | exact HB.out | apply below_alloc | apply pw_below_drewN | apply below_drew1 | refine below_set ?_ (IsS109.ge HI878.out) | refine below_set ?_ GE874.out | refine below_set ?_ GE883.out) | exact HB.out)⟩
       ·
        rw [if_neg c120] at H
        exact absurd H (by simp)
      ·
       rw [if_neg c119] at H
       have c119b0 : (t895 == 4) = false := beq_eq_false_iff_ne.mpr c119
       have c119b1 : (t895 != 4) = true := bne_iff_ne.mpr c119
       by_cases c142 : t895 = 5
       ·
        rw [if_pos c142] at H
        have c142b0 : (t895 == 5) = true := beq_iff_eq.mpr c142
        have c142b1 : (t895 != 5) = false := bne_eq_false_iff_eq.mpr c142
        clear c142
        obtain ⟨y933, hy933⟩ : ∃ y_ : List Int, y_ = (([99] : List Int)) := ⟨_, rfl⟩
        replace H : (if 0 ≤ t892 then (if t892 < (t889.length : Int) then (if 1 ≤ (((rd_T62 t889 t892).f2).length : Int) then ((some (((rd_T62 t889 t892).f2).drop 1 : List Int)).bind fun y937 => (if y933.length + y937.length < 17592186044416 then (some (t879, t880, t884, (t889.set (t892 : Int).toNat (⟨(rd_T62 t889 t892).f0, (rd_T62 t889 t892).f1, (y933 ++ y937)⟩ : S62)))) else (none))) else (none)) else (none)) else (none)) = some (r1, r2, r3, r4) := by first | (rw [hy933]; with_reducible exact H) | (have H2_ := (Option.bind_some _ _).symm.trans H; rw [hy933]; with_reducible exact H2_) | (have H2_ := (Option.bind_some _ _).symm.trans H; with_reducible exact H2_) | with_reducible exact H | (rw [hy933]; exact H) | exact H
        have Ny933 := Aside0.mk hy933
        clear hy933
        by_cases c143 : 0 ≤ t892
        ·
         rw [if_pos c143] at H
         have c143b0 : decide (0 ≤ t892) = true := decide_eq_true c143
         clear c143
         by_cases c144 : t892 < (t889.length : Int)
         ·
          rw [if_pos c144] at H
          have c144b0 : decide (t892 < (t889.length : Int)) = true := decide_eq_true c144
          clear c144
          by_cases c145 : 1 ≤ (((rd_T62 t889 t892).f2).length : Int)
          ·
           rw [if_pos c145] at H
           have c145b0 := eq_true c145
           have c145b1 : decide (1 ≤ (((rd_T62 t889 t892).f2).length : Int)) = true := decide_eq_true c145
           clear c145
           obtain ⟨y937, hy937⟩ : ∃ y_ : List Int, y_ = (((rd_T62 t889 t892).f2).drop 1) := ⟨_, rfl⟩
           replace H : (if y933.length + y937.length < 17592186044416 then (some (t879, t880, t884, (t889.set (t892 : Int).toNat (⟨(rd_T62 t889 t892).f0, (rd_T62 t889 t892).f1, (y933 ++ y937)⟩ : S62)))) else (none)) = some (r1, r2, r3, r4) := by first | (rw [hy937]; with_reducible exact H) | (have H2_ := (Option.bind_some _ _).symm.trans H; rw [hy937]; with_reducible exact H2_) | (have H2_ := (Option.bind_some _ _).symm.trans H; with_reducible exact H2_) | with_reducible exact H | (rw [hy937]; exact H) | exact H
           have Ny937 := Aside0.mk hy937
           clear hy937
           by_cases c146 : y933.length + y937.length < 17592186044416
           ·
            rw [if_pos c146] at H
            have LMc146 := Aside0.mk c146
            clear c146
            obtain ⟨y942, hy942⟩ : ∃ y_ : List Int, y_ = (y933 ++ y937) := ⟨_, rfl⟩
            replace H : (some (t879, t880, t884, (t889.set (t892 : Int).toNat (⟨(rd_T62 t889 t892).f0, (rd_T62 t889 t892).f1, y942⟩ : S62)))) = some (r1, r2, r3, r4) := by first | (rw [hy942]; with_reducible exact H) | (have H2_ := (Option.bind_some _ _).symm.trans H; rw [hy942]; with_reducible exact H2_) | (have H2_ := (Option.bind_some _ _).symm.trans H; with_reducible exact H2_) | with_reducible exact H | (rw [hy942]; exact H) | exact H
            have Ny942 := Aside0.mk hy942
            clear hy942
            obtain ⟨y945, hy945⟩ : ∃ y_ : List (S62), y_ = (t889.set (t892 : Int).toNat (⟨(rd_T62 t889 t892).f0, (rd_T62 t889 t892).f1, y942⟩ : S62)) := ⟨_, rfl⟩
            replace H : (some (t879, t880, t884, y945)) = some (r1, r2, r3, r4) := by first | (rw [hy945]; with_reducible exact H) | (have H2_ := (Option.bind_some _ _).symm.trans H; rw [hy945]; with_reducible exact H2_) | (have H2_ := (Option.bind_some _ _).symm.trans H; with_reducible exact H2_) | with_reducible exact H | (rw [hy945]; exact H) | exact H
            have Ny945 := Aside0.mk hy945
            clear hy945
            simp only [Option.some.injEq, Prod.mk.injEq] at H
            obtain ⟨rfl, rfl, rfl, rfl⟩ := H
            go_enter Try.func50, Try.ntmps50
            go_wp2_with (first | ((with_reducible refine gate_dst (N := 2) rfl ?_); refine box_event ?hg (N := 2) ?hd (cs := #[.int .i64 0, .int .i64 0]) (t := 49) ?hr ?_; (case hd => rfl); (case hg => rfl); (case hr => first | (go_simp; done) | (go_simp; rfl)); intro gb874 hg w148 hbox hb; have n0_ := Aside0.mk (below_step zf50_12 hb); have n1_ := Aside0.mk (hbox); have n2_ := Aside0.mk ((zf50_27 : w.heap.size ≤ gb874)); have n3_ := Aside0.mk ((zf50_27 : w.heap.size ≤ gb874)); clear HB; have HB := n0_; have BK874 := n1_; have GW874 := n2_; have GE874 := n3_; clear n0_ n1_ n2_ n3_; clear hb hbox hg) | ((with_reducible refine gate_callee (f := 66) rfl ?_); refine goesL_ (some 12) rfl rfl Try.func66 (by kernel_rfl) rfl #[.slice A0 l0.length c0] rfl zf50_4 ?_; (with_reducible refine (spec_l01New.calls k _ _ l0 t875 t876 t877 w _ ?side1 ?side2 ?side3 A2.out).mono ?_); (case side1 => repeat (first | (with_reducible first | exact HB.out | apply below_alloc | apply pw_below_drewN | apply below_drew1 | refine below_set ?_ GE874.out) | exact HB.out)); (case side2 => exact HR0.out); (case side3 => exact HC0.out); rintro e w149 ⟨g878, rfl, hi, hb, hb2⟩; refine ⟨_, rfl, ?_⟩; have n0_ := Aside0.mk (blk_below (g := gb874) (o := .cells #[.int .i64 0, .int .i64 0] 49 (0, 0)) zf50_2 hb2); have n1_ := Aside0.mk (hb); have n2_ := Aside0.mk (hi); have n3_ := Aside0.mk (IsS109.ne_blk hi (blk_below (g := gb874) (o := .cells #[.int .i64 0, .int .i64 0] 49 (0, 0)) zf50_2 hb2) (by decide)); have n4_ := Aside0.mk (Ne.symm (IsS109.ne_blk hi (blk_below (g := gb874) (o := .cells #[.int .i64 0, .int .i64 0] 49 (0, 0)) zf50_2 hb2) (by decide))); clear BK874; clear HB; have BK874 := n0_; have HB := n1_; have HI878 := n2_; have NB878_874 := n3_; have NB874_878 := n4_; clear n0_ n1_ n2_ n3_ n4_; (try clear hb); (try clear hb2); (try clear hk); (try clear hi)) | ((with_reducible refine gate_callee (f := 85) rfl ?_); refine goesL_ (some 14) rfl rfl Try.func85 (by kernel_rfl) rfl #[.pointer (some ⟨g878, 0, none⟩)] rfl zf50_4 ?_; (with_reducible refine (spec_l07AnyLimits.calls g878 t875 t876 t877 t879 t880 t881 t882 w _ ?side1 ?side2 A3.out).mono ?_); (case side1 => repeat (first | (with_reducible first | exact HI878.out | apply IsS109.alloc | apply IsS109.drewN | apply IsS109.drew | apply IsS109.set_1 | apply IsS109.set_2 | refine IsS109.far ?_ NB878_874.out _) | exact HI878.out)); (case side2 => repeat (first | (with_reducible first | exact HB.out | apply below_alloc | apply pw_below_drewN | apply below_drew1 | refine below_set ?_ (IsS109.ge HI878.out) | refine below_set ?_ GE874.out) | exact HB.out)); rintro e w150 ⟨rfl, hi, hb, hk⟩; refine ⟨_, rfl, ?_⟩; have n0_ := Aside0.mk (KeepBut.blk hk (g' := gb874) (o := .cells #[.int .i64 0, .int .i64 0] 49 (0, 0)) zf50_2 NB874_878.out (by simp)); have n1_ := Aside0.mk (hb); have n2_ := Aside0.mk (hi); clear BK874; clear HB; clear HI878; have BK874 := n0_; have HB := n1_; have HI878 := n2_; clear n0_ n1_ n2_; (try clear hb); (try clear hb2); (try clear hk); (try clear hi)) | ((with_reducible refine gate_dst (N := 6) rfl ?_); refine box_event ?hg (N := 6) ?hd (cs := #[.int .i64 0, .int .i64 0]) (t := 49) ?hr ?_; (case hd => rfl); (case hg => rfl); (case hr => first | (go_simp; done) | (go_simp; rfl)); intro gb883 hg w151 hbox hb; have n0_ := Aside0.mk (blk_below (g := gb874) (o := .cells #[.int .i64 0, .int .i64 0] 49 (0, 0)) zf50_2 hb); have n1_ := Aside0.mk (IsS109.below zf50_18 hb); have n2_ := Aside0.mk (below_step zf50_7 hb); have n3_ := Aside0.mk (hbox); have n4_ := Aside0.mk ((by rw [hg]; exact (below_size zf50_7) : w.heap.size ≤ gb883)); have n5_ := Aside0.mk ((by rw [hg]; exact (below_size zf50_7) : w.heap.size ≤ gb883)); have n6_ := Aside0.mk ((zf50_22 : gb874 ≠ gb883)); have n7_ := Aside0.mk ((zf50_23 : gb883 ≠ gb874)); have n8_ := Aside0.mk ((zf50_15 : g878 ≠ gb883)); have n9_ := Aside0.mk ((zf50_16 : gb883 ≠ g878)); clear BK874; clear HI878; clear HB; have BK874 := n0_; have HI878 := n1_; have HB := n2_; have BK883 := n3_; have GW883 := n4_; have GE883 := n5_; have NB874_883 := n6_; have NB883_874 := n7_; have NB878_883 := n8_; have NB883_878 := n9_; clear n0_ n1_ n2_ n3_ n4_ n5_ n6_ n7_ n8_ n9_; clear hb hbox hg; have hnb152 := NB883_874.out; have hnc152 := NB874_883.out; have hnb153 := NB883_878.out; have hnc153 := NB878_883.out; have hcz154_0 : w151.cell? ⟨gb883, 0, none⟩ = some (.int .i64 0) := (blk_cell BK883.out 0).trans rfl; have hcz154_1 : w151.cell? ⟨gb883, 1, none⟩ = some (.int .i64 0) := (blk_cell BK883.out 1).trans rfl; have hfz154_0 := blk_frozen BK883.out 0; have hfz154_1 := blk_frozen BK883.out 1) | ((with_reducible refine gate_callee (f := 86) rfl ?_); refine goesL_ (some 16) rfl rfl Try.func86 (by kernel_rfl) rfl #[.pointer (some ⟨g878, 0, none⟩), .int .i64 8] rfl zf50_4 ?_; (with_reducible refine (spec_l07AnyPieces.calls k g878 t875 t881 t882 8 t884 t887 t888 w _ ?side1 ?side2 A4.out).mono ?_); (case side1 => repeat (first | (with_reducible first | exact HI878.out | apply IsS109.alloc | apply IsS109.drewN | apply IsS109.drew | apply IsS109.set_1 | apply IsS109.set_2 | refine IsS109.far ?_ NB878_874.out _ | refine IsS109.far ?_ NB878_883.out _) | exact HI878.out)); (case side2 => repeat (first | (with_reducible first | exact HB.out | apply below_alloc | apply pw_below_drewN | apply below_drew1 | refine below_set ?_ (IsS109.ge HI878.out) | refine below_set ?_ GE874.out | refine below_set ?_ GE883.out) | exact HB.out)); rintro e w155 ⟨v885, rfl, ho0, hi, hb, hk⟩; refine ⟨_, rfl, ?_⟩; have n0_ := Aside0.mk (KeepBut.blk hk (g' := gb874) (o := .cells #[.int .i64 0, .int .i64 0] 49 (0, 0)) zf50_13 NB874_878.out (by simp)); have n1_ := Aside0.mk (KeepBut.blk hk (g' := gb883) (o := .cells #[.int .i64 t879, .int .i64 t880] 49 (0, 0)) zf50_10 NB883_878.out (by simp)); have n2_ := Aside0.mk (Kd.R_lower (Kd.R_newM (M := fun k_ => (w.heap.size ≤ k_)) ho0 (below_size zf50_0) (fun k_ h_ => h_)) (below_size zf50_0)); have n3_ := Aside0.mk (hb); have n4_ := Aside0.mk (hi); clear BK874; clear BK883; clear HB; clear HI878; have BK874 := n0_; have BK883 := n1_; have HO886 := n2_; have HB := n3_; have HI878 := n4_; clear n0_ n1_ n2_ n3_ n4_; (try clear hb); (try clear hb2); (try clear hk); (try clear hi); (try clear ho0); have hcz156_0 : w155.cell? ⟨gb883, 0, none⟩ = some (.int .i64 t879) := (blk_cell BK883.out 0).trans rfl; have hcz156_1 : w155.cell? ⟨gb883, 1, none⟩ = some (.int .i64 t880) := (blk_cell BK883.out 1).trans rfl; have hfz156_0 := blk_frozen BK883.out 0; have hfz156_1 := blk_frozen BK883.out 1; obtain ⟨Ao157, co157, eo157⟩ := Kd.R_slice HO886.out; subst eo157) | ((with_reducible refine gate_callee (f := 44) rfl ?_); refine goesL_ (some 19) rfl rfl Try.func44 (by kernel_rfl) rfl #[.agg #[.int .i64 t879, .int .i64 t880], .slice Ao157 t884.length co157] rfl zf50_4 ?_; (with_reducible refine (spec_FirstFit.calls k t879 t880 _ _ t884 t889 _ ?side1 ?side2 A5.out).mono ?_); (case side1 => repeat (first | exact (Kd.R_reads' HO886.out).2.2 | (with_reducible refine Kd.C_alloc ?_ _) | (with_reducible refine Kd.C_drewN ?_ _) | (with_reducible refine Kd.C_drew ?_))); (case side2 => exact (Kd.R_reads' HO886.out).2.1); rintro e w158 ⟨v890, rfl, ho0, hb⟩; refine ⟨_, rfl, ?_⟩; have n0_ := Aside0.mk (Kd.R_below zf50_6 hb); have n1_ := Aside0.mk (Kd.N_lower (Kd.N_mono (ok' := fun k_ => (w.heap.size ≤ k_) ∧ some k_ ≠ (.slice Ao157 t884.length co157 : Value).ownBlock ∧ k_ ≠ gb874 ∧ k_ ≠ gb883 ∧ k_ ≠ g878) ho0 (fun k_ hk_ => ⟨(Nat.le_trans (below_size zf50_0) hk_), (Kd.fresh' (Kd.R_lt zf50_6) k_ hk_), (Kd.freshB (g := gb874) (o := .cells #[.int .i64 0, .int .i64 0] 49 (0, 0)) zf50_2 k_ hk_), (Kd.freshB (g := gb883) (o := .cells #[.int .i64 t879, .int .i64 t880] 49 (0, 0)) zf50_5 k_ hk_), (IsS109.fresh zf50_3 k_ hk_)⟩)) (below_size zf50_0)); have n2_ := Aside0.mk (blk_below (g := gb874) (o := .cells #[.int .i64 0, .int .i64 0] 49 (0, 0)) zf50_2 hb); have n3_ := Aside0.mk (IsS109.below zf50_3 hb); have n4_ := Aside0.mk (blk_below (g := gb883) (o := .cells #[.int .i64 t879, .int .i64 t880] 49 (0, 0)) zf50_5 hb); have n5_ := Aside0.mk (below_step zf50_0 hb); clear HO886; clear BK874; clear HI878; clear BK883; clear HB; have HO886 := n0_; have HO891 := n1_; have BK874 := n2_; have HI878 := n3_; have BK883 := n4_; have HB := n5_; clear n0_ n1_ n2_ n3_ n4_ n5_; (try clear hb); (try clear hb2); (try clear hk); (try clear hi); (try clear ho0); obtain ⟨Ao159, co159, eo159⟩ := Kd.N_slice HO891.out; subst eo159) | ((with_reducible refine gate_callee (f := 87) rfl ?_); refine goesL_ (some 26) rfl rfl Try.func87 (by kernel_rfl) rfl #[.pointer (some ⟨g878, 0, none⟩), .int .i64 (t889.length : Int)] rfl zf50_4 ?_; (with_reducible refine (spec_l01Below.calls g878 t875 t887 t888 (t889.length : Int) t892 t893 t894 w _ ?side1 ?side2 A7.out).mono ?_); (case side1 => repeat (first | (with_reducible first | exact HI878.out | apply IsS109.alloc | apply IsS109.drewN | apply IsS109.drew | apply IsS109.set_1 | apply IsS109.set_2 | refine IsS109.far ?_ NB878_874.out _ | refine IsS109.far ?_ NB878_883.out _) | exact HI878.out)); (case side2 => repeat (first | (with_reducible first | exact HB.out | apply below_alloc | apply pw_below_drewN | apply below_drew1 | refine below_set ?_ (IsS109.ge HI878.out) | refine below_set ?_ GE874.out | refine below_set ?_ GE883.out) | exact HB.out)); rintro e w160 ⟨rfl, hi, hb, hk⟩; refine ⟨_, rfl, ?_⟩; have n0_ := Aside0.mk (KeepBut.blk hk (g' := gb874) (o := .cells #[.int .i64 0, .int .i64 0] 49 (0, 0)) zf50_2 NB874_878.out (by simp)); have n1_ := Aside0.mk (KeepBut.blk hk (g' := gb883) (o := .cells #[.int .i64 t879, .int .i64 t880] 49 (0, 0)) zf50_5 NB883_878.out (by simp)); have n2_ := Aside0.mk (Kd.R_mono (Kd.R_keep (IsS109.apart (show IsS109 w _ g878 t875 t887 t888 from by repeat (first | (with_reducible first | exact HI878.out | apply IsS109.alloc | apply IsS109.drewN | apply IsS109.drew | apply IsS109.set_1 | apply IsS109.set_2 | refine IsS109.far ?_ NB878_874.out _ | refine IsS109.far ?_ NB878_883.out _) | exact HI878.out)) zf50_6 (by decide)) hk (fun _ h => h.2)) (fun _ h => h.1)); have n3_ := Aside0.mk (Kd.N_mono (Kd.N_keep (Kd.N_mono (ok := fun k_ => (((w.heap.size ≤ k_)) ∧ (some k_ ≠ (.slice Ao157 t884.length co157 : Value).ownBlock ∧ (k_ ≠ gb874 ∧ (k_ ≠ gb883 ∧ k_ ≠ g878))))) zf50_14 (fun k_ hk_ => (⟨hk_, hk_.2.2.2.2⟩ : _ ∧ k_ ≠ g878))) hk (fun _ h => h.2)) (fun _ h => h.1)); have n4_ := Aside0.mk (hb); have n5_ := Aside0.mk (hi); clear BK874; clear BK883; clear HO886; clear HO891; clear HB; clear HI878; have BK874 := n0_; have BK883 := n1_; have HO886 := n2_; have HO891 := n3_; have HB := n4_; have HI878 := n5_; clear n0_ n1_ n2_ n3_ n4_ n5_; (try clear hb); (try clear hb2); (try clear hk); (try clear hi)) | ((with_reducible refine gate_callee (f := 87) rfl ?_); refine goesL_ (some 28) rfl rfl Try.func87 (by kernel_rfl) rfl #[.pointer (some ⟨g878, 0, none⟩), .int .i64 8] rfl zf50_4 ?_; (with_reducible refine (spec_l01Below.calls g878 t875 t893 t894 8 t895 t896 t897 w _ ?side1 ?side2 A8.out).mono ?_); (case side1 => repeat (first | (with_reducible first | exact HI878.out | apply IsS109.alloc | apply IsS109.drewN | apply IsS109.drew | apply IsS109.set_1 | apply IsS109.set_2 | refine IsS109.far ?_ NB878_874.out _ | refine IsS109.far ?_ NB878_883.out _) | exact HI878.out)); (case side2 => repeat (first | (with_reducible first | exact HB.out | apply below_alloc | apply pw_below_drewN | apply below_drew1 | refine below_set ?_ (IsS109.ge HI878.out) | refine below_set ?_ GE874.out | refine below_set ?_ GE883.out) | exact HB.out)); rintro e w161 ⟨rfl, hi, hb, hk⟩; refine ⟨_, rfl, ?_⟩; have n0_ := Aside0.mk (KeepBut.blk hk (g' := gb874) (o := .cells #[.int .i64 0, .int .i64 0] 49 (0, 0)) zf50_2 NB874_878.out (by simp)); have n1_ := Aside0.mk (KeepBut.blk hk (g' := gb883) (o := .cells #[.int .i64 t879, .int .i64 t880] 49 (0, 0)) zf50_5 NB883_878.out (by simp)); have n2_ := Aside0.mk (Kd.R_mono (Kd.R_keep (IsS109.apart (show IsS109 w _ g878 t875 t893 t894 from by repeat (first | (with_reducible first | exact HI878.out | apply IsS109.alloc | apply IsS109.drewN | apply IsS109.drew | apply IsS109.set_1 | apply IsS109.set_2 | refine IsS109.far ?_ NB878_874.out _ | refine IsS109.far ?_ NB878_883.out _) | exact HI878.out)) zf50_6 (by decide)) hk (fun _ h => h.2)) (fun _ h => h.1)); have n3_ := Aside0.mk (Kd.N_mono (Kd.N_keep (Kd.N_mono (ok := fun k_ => (((w.heap.size ≤ k_)) ∧ (some k_ ≠ (.slice Ao157 t884.length co157 : Value).ownBlock ∧ (k_ ≠ gb874 ∧ (k_ ≠ gb883 ∧ k_ ≠ g878))))) zf50_14 (fun k_ hk_ => (⟨hk_, hk_.2.2.2.2⟩ : _ ∧ k_ ≠ g878))) hk (fun _ h => h.2)) (fun _ h => h.1)); have n4_ := Aside0.mk (hb); have n5_ := Aside0.mk (hi); clear BK874; clear BK883; clear HO886; clear HO891; clear HB; clear HI878; have BK874 := n0_; have BK883 := n1_; have HO886 := n2_; have HO891 := n3_; have HB := n4_; have HI878 := n5_; clear n0_ n1_ n2_ n3_ n4_ n5_; (try clear hb); (try clear hb2); (try clear hk); (try clear hi)) | ((with_reducible refine gate_dst (N := 94) rfl ?_); refine Kd.R_lit (Kd.int .i64) _ 3 ?hg (N := 94) ?hd (xs := ([99] : List Int)) (inner := [.int .i64 99]) (ok := fun _ => True) (okp := fun _ => True) ?hr ?hp (fun _ hk => hk) trivial (Below.refl _ _) (Nat.le_refl _) (by simp) ?_; (case hd => rfl); (case hg => rfl); (case hr => first | (go_simp; done) | (go_simp; rfl)); (case hp => exact (Reps.one (show Kd.M (Kd.int .i64) _ _ _ 99 [.int .i64 99] from rfl) (Reps.none _ _))); intro v934 w162 ho163 hb hg_ hnew_; clear hg_ hnew_; (first | rw [← Ny933.out] at ho163 | (simp only [Int.reduceToNat] at ho163; rw [← Ny933.out] at ho163)); have n0_ := Aside0.mk (Kd.R_below zf50_6 hb); have n1_ := Aside0.mk (Kd.N_elder' zf50_14 (Kd.R_base ho163) hb); have n2_ := Aside0.mk (Kd.R_lower (Kd.R_newM (M := fun k_ => (w.heap.size ≤ k_)) ho163 (below_size zf50_0) (fun k_ h_ => h_)) (below_size zf50_0)); have n3_ := Aside0.mk (blk_below (g := gb874) (o := .cells #[.int .i64 0, .int .i64 0] 49 (0, 0)) zf50_2 hb); have n4_ := Aside0.mk (IsS109.below zf50_3 hb); have n5_ := Aside0.mk (blk_below (g := gb883) (o := .cells #[.int .i64 t879, .int .i64 t880] 49 (0, 0)) zf50_5 hb); have n6_ := Aside0.mk (below_step zf50_0 hb); clear HO886; clear HO891; clear BK874; clear HI878; clear BK883; clear HB; have HO886 := n0_; have HO891 := n1_; have HO935 := n2_; have BK874 := n3_; have HI878 := n4_; have BK883 := n5_; have HB := n6_; clear n0_ n1_ n2_ n3_ n4_ n5_ n6_; clear hb ho163; have p936 : 0 ≤ (t892 : Int) := of_decide_eq_true zf50_17; have q936 : t892 < (t889.length : Int) := of_decide_eq_true zf50_17; obtain ⟨ad936, A936_2, c936_2, e936, hx936_0, hx936_1, hx936_2, hl936_2, hi936_2⟩ := at_T62 (Kd.N_reads' HO891.out).2.2 t892 p936 q936; cases e936; obtain ⟨ce936, hce936, hMe936, hcc936⟩ := Kd.N_get HO891.out z62 t892 p936 (by first | exact q936 | exact of_decide_eq_true zf50_17 | (have e_ := (Kd.N_reads' HO891.out).1; omega)); obtain ⟨ua936_2, uc936_2, rfl, ul936_2, ge936_2⟩ := k62_openF hMe936; have hv936_2 := hcc936 2 _ rfl; rw [add_field _ _ 2 (by omega)] at hv936_2; replace hv936_2 := Option.some.inj (hv936_2.symm.trans hx936_2); injection hv936_2 with hva_ hvn_ hvc_; rw [hva_] at ge936_2; rw [hvc_] at ul936_2; have HL936_2 := Aside0.mk (show Kd.V (Kd.int .i64) 3 _ w.heap.size _ _ ((rd_T62 t889 t892).f2) from Kd.V_mk ul936_2 ge936_2); clear hva_ hvn_ hvc_ ge936_2 ul936_2; clear hcc936 hce936; have HR936_2 := Aside0.mk hi936_2; have HC936_2 := Aside0.mk hl936_2; clear hi936_2 hl936_2; replace p936 := eq_true p936; replace q936 := eq_true q936; have q164 : (1 : Int) ≤ ((((rd_T62 t889 t892).f2).length : Int) : Int) := of_decide_eq_true zf50_17; obtain ⟨i0164, hi0164, _, hsz164, _⟩ := info_parts info3; have hroom164 : ((rd_T62 t889 t892).f2).length ≤ c936_2 := HC936_2.out; have hC164 : Kd.F (Kd.int .i64) _ _ A936_2 ((rd_T62 t889 t892).f2).length ((rd_T62 t889 t892).f2) := (Kd.V_at (base := w.heap.size) HL936_2.out).2.2; have hcut164 := cut_from (P := Try.prog) 22 3 .i64 Try.underlying22 hi0164 1 hsz164 A936_2 ((rd_T62 t889 t892).f2).length c936_2 1 (by omega) q164; have hr164 := Kd.F_cut (m := (1 : Int).toNat) (c := c936_2) hC164 (by omega) hroom164; obtain ⟨A164, hA164⟩ : ∃ A1, A1 = (if c936_2 = (1 : Int).toNat then A936_2 else (A936_2 : Option Addr).map (·.add ((1 : Int).toNat * 1))) := ⟨_, rfl⟩; obtain ⟨c164, hc164⟩ : ∃ c1, c1 = c936_2 - (1 : Int).toNat := ⟨_, rfl⟩; have hy164 : y937.length = ((rd_T62 t889 t892).f2).length - (1 : Int).toNat := (by rw [Ny937.out, List.length_drop] <;> omega); rw [show ((rd_T62 t889 t892).f2).drop (1 : Int).toNat = y937 from Ny937.out.symm] at hr164; replace hr164 : Kd.F (Kd.int .i64) _ _ A164 y937.length y937 := (by rw [hA164]; exact hr164); rw [← hy164, ← hA164, ← hc164] at hcut164; have HO941 := Aside0.mk (show Kd.V (Kd.int .i64) 3 _ w.heap.size _ (.slice A164 y937.length c164) y937 from Kd.V_mk (by rw [hy164, hc164]; exact Nat.sub_le_sub_right hroom164 _) hr164); have HC941 := Aside0.mk (show y937.length ≤ c164 from by rw [hy164, hc164]; exact Nat.sub_le_sub_right hroom164 _); clear hr164 hC164 hroom164 hi0164 hsz164 hc164; have KY164 := Aside0.mk hy164; have KA164 := Aside0.mk hA164; clear hy164 hA164; replace q164 := eq_true q164) | ((with_reducible refine gate_builtin (b := .append) (xs := #[.tmp 94, .tmp 100]) rfl ?_); at_builtin; refine Kd.R_append_rows (Kd.int .i64) (w0 := w) w.heap.size rfl (.tmp 94) (.tmp 100) 22 3 (.int .i64 0) 8 rfl Try.underlying22 info3 rfl (by decide) (by omega) v934 y933 y937 _ _ _ (fun k_ => (w.heap.size ≤ k_)) (fun _ => False) rfl rfl ?aO ?aR (fun _ _ h => h) (fun _ h => h.elim) ?aF ?aB ?aS ?aL ?_; (case aR => repeat (first | exact (Kd.V_reads' HO941.out).2.2 | (with_reducible refine Kd.C_alloc ?_ _) | (with_reducible refine Kd.C_drewN ?_ _) | (with_reducible refine Kd.C_drew ?_))); (case aB => exact zf50_0); (case aF => exact (fun k_ hk => (Nat.le_trans (below_size zf50_0) hk))); (case aO => exact (by (with_reducible repeat (first | apply Kd.R_alloc | apply Kd.R_drewN | apply Kd.R_drew)); exact Kd.R_mono HO935.out (fun _ hk => hk.1))); (case aS => exact (below_size zf50_0)); (case aL => have := LMc146.out; omega); intro v943 w165 ho hb hg hat; rw [← Ny942.out] at ho; obtain ⟨Ao943, co943, eo943⟩ := Kd.R_slice ho; subst eo943; have n0_ := Aside0.mk (blk_grown (g := gb874) (o := .cells #[.int .i64 0, .int .i64 0] 49 (0, 0)) zf50_2 hg (Kd.R_ne HO935.out BK874.out (by decide))); have n1_ := Aside0.mk (IsS109.grown zf50_3 hg (IsS109.own_ne HI878.out HO935.out (by decide))); have n2_ := Aside0.mk (blk_grown (g := gb883) (o := .cells #[.int .i64 t879, .int .i64 t880] 49 (0, 0)) zf50_5 hg (Kd.R_ne HO935.out BK883.out (by decide))); have n3_ := Aside0.mk (Kd.R_over' zf50_6 (Kd.R_typed (by (with_reducible repeat (first | apply Kd.R_alloc | apply Kd.R_drewN | apply Kd.R_drew)); exact HO935.out)) (by decide) hg); have n4_ := Aside0.mk (Kd.N_afterv (ok := (fun k_ => (w.heap.size ≤ k_) ∧ some k_ ≠ (.slice Ao157 t884.length co157 : Value).ownBlock ∧ k_ ≠ gb874 ∧ k_ ≠ gb883 ∧ k_ ≠ g878)) zf50_14 hg hat); have n5_ := Aside0.mk (Kd.V_afterv (ok := (fun k_ => (w.heap.size ≤ k_) ∧ some k_ ≠ (.slice Ao157 t884.length co157 : Value).ownBlock ∧ some k_ ≠ (.slice (some ad936) t889.length co159 : Value).ownBlock ∧ k_ ≠ gb874 ∧ k_ ≠ gb883 ∧ k_ ≠ g878)) (by (with_reducible repeat (first | apply Kd.V_alloc | apply Kd.V_drewN | apply Kd.V_drew)); exact Kd.V_mono HL936_2.out (fun _ hk => ⟨⟨hk.1.1.1, ⟨hk.1.1.2.1, ⟨hk.2, ⟨hk.1.1.2.2.1, ⟨hk.1.1.2.2.2.1, hk.1.1.2.2.2.2⟩⟩⟩⟩⟩, hk.1.2⟩)) hg hat); have n6_ := Aside0.mk (Kd.V_afterv (ok := (fun k_ => (w.heap.size ≤ k_) ∧ some k_ ≠ (.slice Ao157 t884.length co157 : Value).ownBlock ∧ some k_ ≠ (.slice (some ad936) t889.length co159 : Value).ownBlock ∧ k_ ≠ gb874 ∧ k_ ≠ gb883 ∧ k_ ≠ g878)) (by (with_reducible repeat (first | apply Kd.V_alloc | apply Kd.V_drewN | apply Kd.V_drew)); exact Kd.V_mono HO941.out (fun _ hk => ⟨⟨hk.1.1.1, ⟨hk.1.1.2.1, ⟨hk.2, ⟨hk.1.1.2.2.1, ⟨hk.1.1.2.2.2.1, hk.1.1.2.2.2.2⟩⟩⟩⟩⟩, hk.1.2⟩)) hg hat); have n7_ := Aside0.mk (hb); have n8_ := Aside0.mk (ho); clear BK874; clear HI878; clear BK883; clear HO886; clear HO891; clear HL936_2; clear HO941; clear HB; clear HO935; have BK874 := n0_; have HI878 := n1_; have BK883 := n2_; have HO886 := n3_; have HO891 := n4_; have HL936_2 := n5_; have HO941 := n6_; have HB := n7_; have HO944 := n8_; clear n0_ n1_ n2_ n3_ n4_ n5_ n6_ n7_ n8_; clear ho hb hg hat; have p147 : 0 ≤ (t892 : Int) := of_decide_eq_true zf50_17; have q147 : (t892 : Int) < ((t889.length : Int) : Int) := of_decide_eq_true zf50_17; obtain ⟨go147, co147, eo147, gb147, gl147, cl147, HG147⟩ := Kd.N_form HO891.out (by omega); (first | cases eo147 | (injection eo147 with ea_ en_ ec_; (first | subst ea_ | (injection ea_ with ea_; subst ea_)); subst ec_; clear en_)); have GB147 := Aside0.mk gb147; have GG147 := Aside0.mk HG147; clear gb147 gl147 HG147; (first | simp only [add_plain] at hx936_0 | skip); (first | simp only [add_plain] at hx936_1 | skip); (first | simp only [add_plain] at hx936_2 | skip); obtain ⟨ce147, hcl147, hM147, hcc147, hfr147⟩ := Kd.N_elem HO891.out z62 (t892 : Int) p147 q147; obtain ⟨ua147_2, uc147_2, rfl, ul147_2, ge147_2⟩ := k62_openF hM147; have hx147_0 : w165.cell? ⟨go147, (t892 : Int).toNat * 3, none⟩ = some (.int .i64 ((rd_T62 t889 t892).f0)) := hcc147 0 _ rfl; have hx147_1 : w165.cell? ⟨go147, (t892 : Int).toNat * 3 + 1, none⟩ = some (.int .i64 ((rd_T62 t889 t892).f1)) := hcc147 1 _ rfl; have hx147_2 : w165.cell? ⟨go147, (t892 : Int).toNat * 3 + 2, none⟩ = some (.slice ua147_2 ((rd_T62 t889 t892).f2).length uc147_2) := hcc147 2 _ rfl; have hf147_0 : w165.frozen? ⟨go147, (t892 : Int).toNat * 3, none⟩ = false := hfr147 0; have hf147_1 : w165.frozen? ⟨go147, (t892 : Int).toNat * 3 + 1, none⟩ = false := hfr147 1; have hf147_2 : w165.frozen? ⟨go147, (t892 : Int).toNat * 3 + 2, none⟩ = false := hfr147 2; clear hcl147 hcc147 hfr147 hM147; replace p147 := eq_true p147; replace q147 := eq_true q147; have n_ := Aside0.mk (Kd.N_mono (ok' := (fun k_ => (w.heap.size ≤ k_) ∧ some k_ ≠ (.slice Ao157 t884.length co157 : Value).ownBlock ∧ some k_ ≠ (.slice Ao943 y942.length co943 : Value).ownBlock ∧ k_ ≠ gb874 ∧ k_ ≠ gb883)) HO891.out (fun k_ hk => ⟨hk.1.1, ⟨hk.1.2.1, ⟨hk.2, ⟨hk.1.2.2.1, hk.1.2.2.2.1⟩⟩⟩⟩)); clear HO891; have HO891 := n_; clear n_; have HX166 := Aside0.mk (show Kd.N k62 62 w165 w.heap.size (fun k_ => (w.heap.size ≤ k_) ∧ some k_ ≠ (.slice Ao157 t884.length co157 : Value).ownBlock ∧ k_ ≠ gb874 ∧ k_ ≠ gb883) (.slice (some ⟨go147, 0, none⟩) t889.length co159) t889 from (by (with_reducible repeat (first | apply Kd.N_alloc | apply Kd.N_drewN | apply Kd.N_drew)); exact Kd.N_mono HO891.out (fun _ hk => ⟨hk.1, ⟨hk.2.1, ⟨hk.2.2.2.1, hk.2.2.2.2⟩⟩⟩))); obtain ⟨ce166, hcl166, hM166, hcc166, hfr166⟩ := Kd.N_elem HX166.out z62 (t892 : Int) (of_decide_eq_true zf50_17) zf50_20; obtain ⟨ua166_2, uc166_2, rfl, ul166_2, ge166_2⟩ := k62_openF hM166; have HP166 := Kd.N_seg HX166.out (t892 : Int) (of_decide_eq_true zf50_17) zf50_20 (seg := [(.slice Ao943 y942.length co943)]) (j := 2) hcl166 hcc166 (show 3 ≤ 3 from by decide) (x' := (⟨(rd_T62 t889 t892).f0, (rd_T62 t889 t892).f1, y942⟩ : S62)) (k62_mkF _ _ (⟨(rd_T62 t889 t892).f0, (rd_T62 t889 t892).f1, y942⟩ : S62) (Kd.R_reads' (Kd.R_mono (ok' := (fun k_ => ((fun k_ => (w.heap.size ≤ k_) ∧ some k_ ≠ (.slice Ao157 t884.length co157 : Value).ownBlock ∧ k_ ≠ gb874 ∧ k_ ≠ gb883)) k_ ∧ k_ ≠ go147)) (Kd.R_types (Kd.R_types (Kd.R_apart' (Kd.R_apart' (HO944.out) (Kd.R_typed HO886.out) (by decide)) (Kd.N_typed HO891.out) (by decide)) BK874.out (by decide)) BK883.out (by decide)) (fun k_ hk => ⟨⟨hk.1.1.1.1, ⟨hk.1.1.1.2, ⟨hk.1.2, hk.2⟩⟩⟩, fun e_ => (hk.1.1.2) (by rw [e_]; rfl)⟩))).2.1 (Kd.R_F (Kd.R_mono (ok' := (fun k_ => ((fun k_ => (w.heap.size ≤ k_) ∧ some k_ ≠ (.slice Ao157 t884.length co157 : Value).ownBlock ∧ k_ ≠ gb874 ∧ k_ ≠ gb883)) k_ ∧ k_ ≠ go147)) (Kd.R_types (Kd.R_types (Kd.R_apart' (Kd.R_apart' (HO944.out) (Kd.R_typed HO886.out) (by decide)) (Kd.N_typed HO891.out) (by decide)) BK874.out (by decide)) BK883.out (by decide)) (fun k_ hk => ⟨⟨hk.1.1.1.1, ⟨hk.1.1.1.2, ⟨hk.1.2, hk.2⟩⟩⟩, fun e_ => (hk.1.1.2) (by rw [e_]; rfl)⟩)))) (fun _ hk => hk); have hx166_2 := hcc166 2 _ rfl; (try simp only [show (k62).sz = 3 from rfl, Nat.mul_one, Nat.add_zero] at hx166_2); have hf166_2 := hfr166 2; (try simp only [show (k62).sz = 3 from rfl, Nat.mul_one, Nat.add_zero] at hf166_2); clear hcl166 hcc166 hfr166 hM166) | ((with_reducible refine gate_store (t := 22) (p := 103) rfl ?_); refine store_event (t := 22) (p := 103) (v := ?vo_w167) (w1 := (w165.setCell ⟨go147, (t892 : Int).toNat * 3 + 2, none⟩ ((.slice Ao943 y942.length co943)))) ?hg ?ho ?hn ?hr ?_; (case ho => rfl); (case hg => rfl); (case hn => rfl); (case hr => first | (go_simp; done) | (go_simp; rfl)); intro w167 hw; have hg : w165.grownBy w167 (some go147) := (by rw [hw]; exact HP166.2); have hp_ : Kd.N k62 62 w167 w.heap.size (fun k_ => (w.heap.size ≤ k_) ∧ some k_ ≠ (.slice Ao157 t884.length co157 : Value).ownBlock ∧ k_ ≠ gb874 ∧ k_ ≠ gb883) (.slice (some ⟨go147, 0, none⟩) t889.length co159) y945 := (by rw [hw, Ny945.out]; exact HP166.1); clear HP166; have n0_ := Aside0.mk (blk_grown (g := gb874) (o := .cells #[.int .i64 0, .int .i64 0] 49 (0, 0)) zf50_2 hg (Kd.N_ne HO891.out BK874.out (by decide))); have n1_ := Aside0.mk (IsS109.grown zf50_3 hg (IsS109.own_neN HI878.out HO891.out (by decide))); have n2_ := Aside0.mk (blk_grown (g := gb883) (o := .cells #[.int .i64 t879, .int .i64 t880] 49 (0, 0)) zf50_5 hg (Kd.N_ne HO891.out BK883.out (by decide))); have n3_ := Aside0.mk (Kd.R_over' (v := (.slice (some ⟨go147, 0, none⟩) t889.length co159)) zf50_6 (Kd.N_typed HO891.out) (by decide) hg); have n4_ := Aside0.mk (hp_); have n5_ := Aside0.mk (Kd.V_afterv (v := (.slice (some ⟨go147, 0, none⟩) t889.length co159)) (v1 := (.slice (some ⟨go147, 0, none⟩) t889.length co159)) (ok := (fun k_ => (w.heap.size ≤ k_) ∧ some k_ ≠ (.slice Ao157 t884.length co157 : Value).ownBlock ∧ some k_ ≠ (.slice Ao943 y942.length co943 : Value).ownBlock ∧ k_ ≠ gb874 ∧ k_ ≠ gb883 ∧ k_ ≠ g878)) (by (with_reducible repeat (first | apply Kd.V_alloc | apply Kd.V_drewN | apply Kd.V_drew)); exact Kd.V_mono HL936_2.out (fun _ hk => ⟨⟨hk.1.1, ⟨hk.1.2.1, ⟨hk.2, ⟨hk.1.2.2.2.1, ⟨hk.1.2.2.2.2.1, hk.1.2.2.2.2.2⟩⟩⟩⟩⟩, hk.1.2.2.1⟩)) hg (.inl rfl)); have n6_ := Aside0.mk (Kd.V_afterv (v := (.slice (some ⟨go147, 0, none⟩) t889.length co159)) (v1 := (.slice (some ⟨go147, 0, none⟩) t889.length co159)) (ok := (fun k_ => (w.heap.size ≤ k_) ∧ some k_ ≠ (.slice Ao157 t884.length co157 : Value).ownBlock ∧ some k_ ≠ (.slice Ao943 y942.length co943 : Value).ownBlock ∧ k_ ≠ gb874 ∧ k_ ≠ gb883 ∧ k_ ≠ g878)) (by (with_reducible repeat (first | apply Kd.V_alloc | apply Kd.V_drewN | apply Kd.V_drew)); exact Kd.V_mono HO941.out (fun _ hk => ⟨⟨hk.1.1, ⟨hk.1.2.1, ⟨hk.2, ⟨hk.1.2.2.2.1, ⟨hk.1.2.2.2.2.1, hk.1.2.2.2.2.2⟩⟩⟩⟩⟩, hk.1.2.2.1⟩)) hg (.inl rfl)); have n7_ := Aside0.mk ((by rw [hw]; exact below_set (HB.out) GB147.out : Below w.heap.size w w167)); clear BK874; clear HI878; clear BK883; clear HO886; clear HO891; clear HL936_2; clear HO941; clear HB; clear HO944; have BK874 := n0_; have HI878 := n1_; have BK883 := n2_; have HO886 := n3_; have HO891 := n4_; have HL936_2 := n5_; have HO941 := n6_; have HB := n7_; clear n0_ n1_ n2_ n3_ n4_ n5_ n6_ n7_; clear hg hw hp_; have hcz168_0 : w167.cell? ⟨gb883, 0, none⟩ = some (.int .i64 t879) := (blk_cell BK883.out 0).trans rfl; have hcz168_1 : w167.cell? ⟨gb883, 1, none⟩ = some (.int .i64 t880) := (blk_cell BK883.out 1).trans rfl; have hfz168_0 := blk_frozen BK883.out 0; have hfz168_1 := blk_frozen BK883.out 1; have hnb169 := NB874_878.out; have hnc169 := NB878_874.out; have hcz170_0 : w167.cell? ⟨gb874, 0, none⟩ = some (.int .i64 0) := (blk_cell BK874.out 0).trans rfl; have hcz170_1 : w167.cell? ⟨gb874, 1, none⟩ = some (.int .i64 0) := (blk_cell BK874.out 1).trans rfl; have hfz170_0 := blk_frozen BK874.out 0; have hfz170_1 := blk_frozen BK874.out 1))
            refine bodyPost_ret (results_ctt rfl _ _ gb874 49 #[.int .i64 t879, .int .i64 t880] (0, 0) _ rfl zf50_11 Try.underlying49 rfl (by kernel_rfl)) rfl ?_
            exact ⟨_, _, by first | rfl | (simp [errW_none, errW_some] <;> rfl) | (simp [*, errW_none, errW_some] <;> rfl), by (with_reducible repeat (first | apply Kd.R_alloc | apply Kd.R_drewN | apply Kd.R_drew)); exact Kd.R_mono (Kd.R_far (p := ⟨gb874, 1, none⟩) (Kd.R_far (p := ⟨gb874, 0, none⟩) (Kd.R_types HO886.out BK874.out (by decide)) (fun _ hk => hk.2) (.int .i64 t879)) (fun _ hk => hk.2) (.int .i64 t880)) (fun _ hk => hk.1.1), by (with_reducible repeat (first | apply Kd.N_alloc | apply Kd.N_drewN | apply Kd.N_drew)); exact Kd.N_mono (Kd.N_far (p := ⟨gb874, 1, none⟩) (Kd.N_far (p := ⟨gb874, 0, none⟩) (Kd.N_mono HO891.out (fun k_ hk => (⟨hk, hk.2.2.1⟩ : _ ∧ k_ ≠ gb874))) (fun _ hk => hk.2) (.int .i64 t879)) (fun _ hk => hk.2) (.int .i64 t880)) (fun _ hk => ⟨hk.1.1, hk.1.2.1⟩), by repeat (first | (with_reducible first | exact HB.out | apply below_alloc | apply pw_below_drewN | apply below_drew1 | refine below_set ?_ (IsS109.ge HI878.out) | refine below_set ?_ GE874.out | refine below_set ?_ GE883.out) | exact HB.out)⟩
           ·
            rw [if_neg c146] at H
            exact absurd H (by simp)
          ·
           rw [if_neg c145] at H
           exact absurd H (by simp)
         ·
          rw [if_neg c144] at H
          exact absurd H (by simp)
        ·
         rw [if_neg c143] at H
         exact absurd H (by simp)
       ·
        rw [if_neg c142] at H
        have c142b0 : (t895 == 5) = false := beq_eq_false_iff_ne.mpr c142
        have c142b1 : (t895 != 5) = true := bne_iff_ne.mpr c142
        simp only [Option.some.injEq, Prod.mk.injEq] at H
        obtain ⟨rfl, rfl, rfl, rfl⟩ := H
        go_enter Try.func50, Try.ntmps50
        go_wp2_with (first | ((with_reducible refine gate_dst (N := 2) rfl ?_); refine box_event ?hg (N := 2) ?hd (cs := #[.int .i64 0, .int .i64 0]) (t := 49) ?hr ?_; (case hd => rfl); (case hg => rfl); (case hr => first | (go_simp; done) | (go_simp; rfl)); intro gb874 hg w171 hbox hb; have n0_ := Aside0.mk (below_step zf50_12 hb); have n1_ := Aside0.mk (hbox); have n2_ := Aside0.mk ((zf50_27 : w.heap.size ≤ gb874)); have n3_ := Aside0.mk ((zf50_27 : w.heap.size ≤ gb874)); clear HB; have HB := n0_; have BK874 := n1_; have GW874 := n2_; have GE874 := n3_; clear n0_ n1_ n2_ n3_; clear hb hbox hg) | ((with_reducible refine gate_callee (f := 66) rfl ?_); refine goesL_ (some 12) rfl rfl Try.func66 (by kernel_rfl) rfl #[.slice A0 l0.length c0] rfl zf50_4 ?_; (with_reducible refine (spec_l01New.calls k _ _ l0 t875 t876 t877 w _ ?side1 ?side2 ?side3 A2.out).mono ?_); (case side1 => repeat (first | (with_reducible first | exact HB.out | apply below_alloc | apply pw_below_drewN | apply below_drew1 | refine below_set ?_ GE874.out) | exact HB.out)); (case side2 => exact HR0.out); (case side3 => exact HC0.out); rintro e w172 ⟨g878, rfl, hi, hb, hb2⟩; refine ⟨_, rfl, ?_⟩; have n0_ := Aside0.mk (blk_below (g := gb874) (o := .cells #[.int .i64 0, .int .i64 0] 49 (0, 0)) zf50_2 hb2); have n1_ := Aside0.mk (hb); have n2_ := Aside0.mk (hi); have n3_ := Aside0.mk (IsS109.ne_blk hi (blk_below (g := gb874) (o := .cells #[.int .i64 0, .int .i64 0] 49 (0, 0)) zf50_2 hb2) (by decide)); have n4_ := Aside0.mk (Ne.symm (IsS109.ne_blk hi (blk_below (g := gb874) (o := .cells #[.int .i64 0, .int .i64 0] 49 (0, 0)) zf50_2 hb2) (by decide))); clear BK874; clear HB; have BK874 := n0_; have HB := n1_; have HI878 := n2_; have NB878_874 := n3_; have NB874_878 := n4_; clear n0_ n1_ n2_ n3_ n4_; (try clear hb); (try clear hb2); (try clear hk); (try clear hi)) | ((with_reducible refine gate_callee (f := 85) rfl ?_); refine goesL_ (some 14) rfl rfl Try.func85 (by kernel_rfl) rfl #[.pointer (some ⟨g878, 0, none⟩)] rfl zf50_4 ?_; (with_reducible refine (spec_l07AnyLimits.calls g878 t875 t876 t877 t879 t880 t881 t882 w _ ?side1 ?side2 A3.out).mono ?_); (case side1 => repeat (first | (with_reducible first | exact HI878.out | apply IsS109.alloc | apply IsS109.drewN | apply IsS109.drew | apply IsS109.set_1 | apply IsS109.set_2 | refine IsS109.far ?_ NB878_874.out _) | exact HI878.out)); (case side2 => repeat (first | (with_reducible first | exact HB.out | apply below_alloc | apply pw_below_drewN | apply below_drew1 | refine below_set ?_ (IsS109.ge HI878.out) | refine below_set ?_ GE874.out) | exact HB.out)); rintro e w173 ⟨rfl, hi, hb, hk⟩; refine ⟨_, rfl, ?_⟩; have n0_ := Aside0.mk (KeepBut.blk hk (g' := gb874) (o := .cells #[.int .i64 0, .int .i64 0] 49 (0, 0)) zf50_2 NB874_878.out (by simp)); have n1_ := Aside0.mk (hb); have n2_ := Aside0.mk (hi); clear BK874; clear HB; clear HI878; have BK874 := n0_; have HB := n1_; have HI878 := n2_; clear n0_ n1_ n2_; (try clear hb); (try clear hb2); (try clear hk); (try clear hi)) | ((with_reducible refine gate_dst (N := 6) rfl ?_); refine box_event ?hg (N := 6) ?hd (cs := #[.int .i64 0, .int .i64 0]) (t := 49) ?hr ?_; (case hd => rfl); (case hg => rfl); (case hr => first | (go_simp; done) | (go_simp; rfl)); intro gb883 hg w174 hbox hb; have n0_ := Aside0.mk (blk_below (g := gb874) (o := .cells #[.int .i64 0, .int .i64 0] 49 (0, 0)) zf50_2 hb); have n1_ := Aside0.mk (IsS109.below zf50_18 hb); have n2_ := Aside0.mk (below_step zf50_7 hb); have n3_ := Aside0.mk (hbox); have n4_ := Aside0.mk ((by rw [hg]; exact (below_size zf50_7) : w.heap.size ≤ gb883)); have n5_ := Aside0.mk ((by rw [hg]; exact (below_size zf50_7) : w.heap.size ≤ gb883)); have n6_ := Aside0.mk ((zf50_22 : gb874 ≠ gb883)); have n7_ := Aside0.mk ((zf50_23 : gb883 ≠ gb874)); have n8_ := Aside0.mk ((zf50_15 : g878 ≠ gb883)); have n9_ := Aside0.mk ((zf50_16 : gb883 ≠ g878)); clear BK874; clear HI878; clear HB; have BK874 := n0_; have HI878 := n1_; have HB := n2_; have BK883 := n3_; have GW883 := n4_; have GE883 := n5_; have NB874_883 := n6_; have NB883_874 := n7_; have NB878_883 := n8_; have NB883_878 := n9_; clear n0_ n1_ n2_ n3_ n4_ n5_ n6_ n7_ n8_ n9_; clear hb hbox hg; have hnb175 := NB883_874.out; have hnc175 := NB874_883.out; have hnb176 := NB883_878.out; have hnc176 := NB878_883.out; have hcz177_0 : w174.cell? ⟨gb883, 0, none⟩ = some (.int .i64 0) := (blk_cell BK883.out 0).trans rfl; have hcz177_1 : w174.cell? ⟨gb883, 1, none⟩ = some (.int .i64 0) := (blk_cell BK883.out 1).trans rfl; have hfz177_0 := blk_frozen BK883.out 0; have hfz177_1 := blk_frozen BK883.out 1) | ((with_reducible refine gate_callee (f := 86) rfl ?_); refine goesL_ (some 16) rfl rfl Try.func86 (by kernel_rfl) rfl #[.pointer (some ⟨g878, 0, none⟩), .int .i64 8] rfl zf50_4 ?_; (with_reducible refine (spec_l07AnyPieces.calls k g878 t875 t881 t882 8 t884 t887 t888 w _ ?side1 ?side2 A4.out).mono ?_); (case side1 => repeat (first | (with_reducible first | exact HI878.out | apply IsS109.alloc | apply IsS109.drewN | apply IsS109.drew | apply IsS109.set_1 | apply IsS109.set_2 | refine IsS109.far ?_ NB878_874.out _ | refine IsS109.far ?_ NB878_883.out _) | exact HI878.out)); (case side2 => repeat (first | (with_reducible first | exact HB.out | apply below_alloc | apply pw_below_drewN | apply below_drew1 | refine below_set ?_ (IsS109.ge HI878.out) | refine below_set ?_ GE874.out | refine below_set ?_ GE883.out) | exact HB.out)); rintro e w178 ⟨v885, rfl, ho0, hi, hb, hk⟩; refine ⟨_, rfl, ?_⟩; have n0_ := Aside0.mk (KeepBut.blk hk (g' := gb874) (o := .cells #[.int .i64 0, .int .i64 0] 49 (0, 0)) zf50_13 NB874_878.out (by simp)); have n1_ := Aside0.mk (KeepBut.blk hk (g' := gb883) (o := .cells #[.int .i64 t879, .int .i64 t880] 49 (0, 0)) zf50_10 NB883_878.out (by simp)); have n2_ := Aside0.mk (Kd.R_lower (Kd.R_newM (M := fun k_ => (w.heap.size ≤ k_)) ho0 (below_size zf50_0) (fun k_ h_ => h_)) (below_size zf50_0)); have n3_ := Aside0.mk (hb); have n4_ := Aside0.mk (hi); clear BK874; clear BK883; clear HB; clear HI878; have BK874 := n0_; have BK883 := n1_; have HO886 := n2_; have HB := n3_; have HI878 := n4_; clear n0_ n1_ n2_ n3_ n4_; (try clear hb); (try clear hb2); (try clear hk); (try clear hi); (try clear ho0); have hcz179_0 : w178.cell? ⟨gb883, 0, none⟩ = some (.int .i64 t879) := (blk_cell BK883.out 0).trans rfl; have hcz179_1 : w178.cell? ⟨gb883, 1, none⟩ = some (.int .i64 t880) := (blk_cell BK883.out 1).trans rfl; have hfz179_0 := blk_frozen BK883.out 0; have hfz179_1 := blk_frozen BK883.out 1; obtain ⟨Ao180, co180, eo180⟩ := Kd.R_slice HO886.out; subst eo180) | ((with_reducible refine gate_callee (f := 44) rfl ?_); refine goesL_ (some 19) rfl rfl Try.func44 (by kernel_rfl) rfl #[.agg #[.int .i64 t879, .int .i64 t880], .slice Ao180 t884.length co180] rfl zf50_4 ?_; (with_reducible refine (spec_FirstFit.calls k t879 t880 _ _ t884 t889 _ ?side1 ?side2 A5.out).mono ?_); (case side1 => repeat (first | exact (Kd.R_reads' HO886.out).2.2 | (with_reducible refine Kd.C_alloc ?_ _) | (with_reducible refine Kd.C_drewN ?_ _) | (with_reducible refine Kd.C_drew ?_))); (case side2 => exact (Kd.R_reads' HO886.out).2.1); rintro e w181 ⟨v890, rfl, ho0, hb⟩; refine ⟨_, rfl, ?_⟩; have n0_ := Aside0.mk (Kd.R_below zf50_6 hb); have n1_ := Aside0.mk (Kd.N_lower (Kd.N_mono (ok' := fun k_ => (w.heap.size ≤ k_) ∧ some k_ ≠ (.slice Ao180 t884.length co180 : Value).ownBlock ∧ k_ ≠ gb874 ∧ k_ ≠ gb883 ∧ k_ ≠ g878) ho0 (fun k_ hk_ => ⟨(Nat.le_trans (below_size zf50_0) hk_), (Kd.fresh' (Kd.R_lt zf50_6) k_ hk_), (Kd.freshB (g := gb874) (o := .cells #[.int .i64 0, .int .i64 0] 49 (0, 0)) zf50_2 k_ hk_), (Kd.freshB (g := gb883) (o := .cells #[.int .i64 t879, .int .i64 t880] 49 (0, 0)) zf50_5 k_ hk_), (IsS109.fresh zf50_3 k_ hk_)⟩)) (below_size zf50_0)); have n2_ := Aside0.mk (blk_below (g := gb874) (o := .cells #[.int .i64 0, .int .i64 0] 49 (0, 0)) zf50_2 hb); have n3_ := Aside0.mk (IsS109.below zf50_3 hb); have n4_ := Aside0.mk (blk_below (g := gb883) (o := .cells #[.int .i64 t879, .int .i64 t880] 49 (0, 0)) zf50_5 hb); have n5_ := Aside0.mk (below_step zf50_0 hb); clear HO886; clear BK874; clear HI878; clear BK883; clear HB; have HO886 := n0_; have HO891 := n1_; have BK874 := n2_; have HI878 := n3_; have BK883 := n4_; have HB := n5_; clear n0_ n1_ n2_ n3_ n4_ n5_; (try clear hb); (try clear hb2); (try clear hk); (try clear hi); (try clear ho0); obtain ⟨Ao182, co182, eo182⟩ := Kd.N_slice HO891.out; subst eo182) | ((with_reducible refine gate_callee (f := 87) rfl ?_); refine goesL_ (some 26) rfl rfl Try.func87 (by kernel_rfl) rfl #[.pointer (some ⟨g878, 0, none⟩), .int .i64 (t889.length : Int)] rfl zf50_4 ?_; (with_reducible refine (spec_l01Below.calls g878 t875 t887 t888 (t889.length : Int) t892 t893 t894 w _ ?side1 ?side2 A7.out).mono ?_); (case side1 => repeat (first | (with_reducible first | exact HI878.out | apply IsS109.alloc | apply IsS109.drewN | apply IsS109.drew | apply IsS109.set_1 | apply IsS109.set_2 | refine IsS109.far ?_ NB878_874.out _ | refine IsS109.far ?_ NB878_883.out _) | exact HI878.out)); (case side2 => repeat (first | (with_reducible first | exact HB.out | apply below_alloc | apply pw_below_drewN | apply below_drew1 | refine below_set ?_ (IsS109.ge HI878.out) | refine below_set ?_ GE874.out | refine below_set ?_ GE883.out) | exact HB.out)); rintro e w183 ⟨rfl, hi, hb, hk⟩; refine ⟨_, rfl, ?_⟩; have n0_ := Aside0.mk (KeepBut.blk hk (g' := gb874) (o := .cells #[.int .i64 0, .int .i64 0] 49 (0, 0)) zf50_2 NB874_878.out (by simp)); have n1_ := Aside0.mk (KeepBut.blk hk (g' := gb883) (o := .cells #[.int .i64 t879, .int .i64 t880] 49 (0, 0)) zf50_5 NB883_878.out (by simp)); have n2_ := Aside0.mk (Kd.R_mono (Kd.R_keep (IsS109.apart (show IsS109 w _ g878 t875 t887 t888 from by repeat (first | (with_reducible first | exact HI878.out | apply IsS109.alloc | apply IsS109.drewN | apply IsS109.drew | apply IsS109.set_1 | apply IsS109.set_2 | refine IsS109.far ?_ NB878_874.out _ | refine IsS109.far ?_ NB878_883.out _) | exact HI878.out)) zf50_6 (by decide)) hk (fun _ h => h.2)) (fun _ h => h.1)); have n3_ := Aside0.mk (Kd.N_mono (Kd.N_keep (Kd.N_mono (ok := fun k_ => (((w.heap.size ≤ k_)) ∧ (some k_ ≠ (.slice Ao180 t884.length co180 : Value).ownBlock ∧ (k_ ≠ gb874 ∧ (k_ ≠ gb883 ∧ k_ ≠ g878))))) zf50_14 (fun k_ hk_ => (⟨hk_, hk_.2.2.2.2⟩ : _ ∧ k_ ≠ g878))) hk (fun _ h => h.2)) (fun _ h => h.1)); have n4_ := Aside0.mk (hb); have n5_ := Aside0.mk (hi); clear BK874; clear BK883; clear HO886; clear HO891; clear HB; clear HI878; have BK874 := n0_; have BK883 := n1_; have HO886 := n2_; have HO891 := n3_; have HB := n4_; have HI878 := n5_; clear n0_ n1_ n2_ n3_ n4_ n5_; (try clear hb); (try clear hb2); (try clear hk); (try clear hi)) | ((with_reducible refine gate_callee (f := 87) rfl ?_); refine goesL_ (some 28) rfl rfl Try.func87 (by kernel_rfl) rfl #[.pointer (some ⟨g878, 0, none⟩), .int .i64 8] rfl zf50_4 ?_; (with_reducible refine (spec_l01Below.calls g878 t875 t893 t894 8 t895 t896 t897 w _ ?side1 ?side2 A8.out).mono ?_); (case side1 => repeat (first | (with_reducible first | exact HI878.out | apply IsS109.alloc | apply IsS109.drewN | apply IsS109.drew | apply IsS109.set_1 | apply IsS109.set_2 | refine IsS109.far ?_ NB878_874.out _ | refine IsS109.far ?_ NB878_883.out _) | exact HI878.out)); (case side2 => repeat (first | (with_reducible first | exact HB.out | apply below_alloc | apply pw_below_drewN | apply below_drew1 | refine below_set ?_ (IsS109.ge HI878.out) | refine below_set ?_ GE874.out | refine below_set ?_ GE883.out) | exact HB.out)); rintro e w184 ⟨rfl, hi, hb, hk⟩; refine ⟨_, rfl, ?_⟩; have n0_ := Aside0.mk (KeepBut.blk hk (g' := gb874) (o := .cells #[.int .i64 0, .int .i64 0] 49 (0, 0)) zf50_2 NB874_878.out (by simp)); have n1_ := Aside0.mk (KeepBut.blk hk (g' := gb883) (o := .cells #[.int .i64 t879, .int .i64 t880] 49 (0, 0)) zf50_5 NB883_878.out (by simp)); have n2_ := Aside0.mk (Kd.R_mono (Kd.R_keep (IsS109.apart (show IsS109 w _ g878 t875 t893 t894 from by repeat (first | (with_reducible first | exact HI878.out | apply IsS109.alloc | apply IsS109.drewN | apply IsS109.drew | apply IsS109.set_1 | apply IsS109.set_2 | refine IsS109.far ?_ NB878_874.out _ | refine IsS109.far ?_ NB878_883.out _) | exact HI878.out)) zf50_6 (by decide)) hk (fun _ h => h.2)) (fun _ h => h.1)); have n3_ := Aside0.mk (Kd.N_mono (Kd.N_keep (Kd.N_mono (ok := fun k_ => (((w.heap.size ≤ k_)) ∧ (some k_ ≠ (.slice Ao180 t884.length co180 : Value).ownBlock ∧ (k_ ≠ gb874 ∧ (k_ ≠ gb883 ∧ k_ ≠ g878))))) zf50_14 (fun k_ hk_ => (⟨hk_, hk_.2.2.2.2⟩ : _ ∧ k_ ≠ g878))) hk (fun _ h => h.2)) (fun _ h => h.1)); have n4_ := Aside0.mk (hb); have n5_ := Aside0.mk (hi); clear BK874; clear BK883; clear HO886; clear HO891; clear HB; clear HI878; have BK874 := n0_; have BK883 := n1_; have HO886 := n2_; have HO891 := n3_; have HB := n4_; have HI878 := n5_; clear n0_ n1_ n2_ n3_ n4_ n5_; (try clear hb); (try clear hb2); (try clear hk); (try clear hi); have hcz185_0 : w184.cell? ⟨gb883, 0, none⟩ = some (.int .i64 t879) := (blk_cell BK883.out 0).trans rfl; have hcz185_1 : w184.cell? ⟨gb883, 1, none⟩ = some (.int .i64 t880) := (blk_cell BK883.out 1).trans rfl; have hfz185_0 := blk_frozen BK883.out 0; have hfz185_1 := blk_frozen BK883.out 1; have hnb186 := NB874_878.out; have hnc186 := NB878_874.out; have hcz187_0 : w184.cell? ⟨gb874, 0, none⟩ = some (.int .i64 0) := (blk_cell BK874.out 0).trans rfl; have hcz187_1 : w184.cell? ⟨gb874, 1, none⟩ = some (.int .i64 0) := (blk_cell BK874.out 1).trans rfl; have hfz187_0 := blk_frozen BK874.out 0; have hfz187_1 := blk_frozen BK874.out 1))
        refine bodyPost_ret (results_ctt rfl _ _ gb874 49 #[.int .i64 t879, .int .i64 t880] (0, 0) _ rfl zf50_11 Try.underlying49 rfl (by kernel_rfl)) rfl ?_
        exact ⟨_, _, by first | rfl | (simp [errW_none, errW_some] <;> rfl) | (simp [*, errW_none, errW_some] <;> rfl), by (with_reducible repeat (first | apply Kd.R_alloc | apply Kd.R_drewN | apply Kd.R_drew)); exact Kd.R_mono (Kd.R_far (p := ⟨gb874, 1, none⟩) (Kd.R_far (p := ⟨gb874, 0, none⟩) (Kd.R_types HO886.out BK874.out (by decide)) (fun _ hk => hk.2) (.int .i64 t879)) (fun _ hk => hk.2) (.int .i64 t880)) (fun _ hk => hk.1.1), by (with_reducible repeat (first | apply Kd.N_alloc | apply Kd.N_drewN | apply Kd.N_drew)); exact Kd.N_mono (Kd.N_far (p := ⟨gb874, 1, none⟩) (Kd.N_far (p := ⟨gb874, 0, none⟩) (Kd.N_mono HO891.out (fun k_ hk => (⟨hk, hk.2.2.1⟩ : _ ∧ k_ ≠ gb874))) (fun _ hk => hk.2) (.int .i64 t879)) (fun _ hk => hk.2) (.int .i64 t880)) (fun _ hk => ⟨hk.1.1, hk.1.2.1⟩), by repeat (first | (with_reducible first | exact HB.out | apply below_alloc | apply pw_below_drewN | apply below_drew1 | refine below_set ?_ (IsS109.ge HI878.out) | refine below_set ?_ GE874.out | refine below_set ?_ GE883.out) | exact HB.out)⟩
 ·
  rw [if_neg c6] at H
  have c6b0 : decide (0 < (t889.length : Int)) = false := decide_eq_false c6
  have c6b1 : decide (0 < t889.length) = false := decide_eq_false (by omega)
  clear c6
  simp only [Option.some.injEq, Prod.mk.injEq] at H
  obtain ⟨rfl, rfl, rfl, rfl⟩ := H
  go_enter Try.func50, Try.ntmps50
  go_wp2_with (first | ((with_reducible refine gate_dst (N := 2) rfl ?_); refine box_event ?hg (N := 2) ?hd (cs := #[.int .i64 0, .int .i64 0]) (t := 49) ?hr ?_; (case hd => rfl); (case hg => rfl); (case hr => first | (go_simp; done) | (go_simp; rfl)); intro gb874 hg w188 hbox hb; have n0_ := Aside0.mk (below_step zf50_12 hb); have n1_ := Aside0.mk (hbox); have n2_ := Aside0.mk ((zf50_27 : w.heap.size ≤ gb874)); have n3_ := Aside0.mk ((zf50_27 : w.heap.size ≤ gb874)); clear HB; have HB := n0_; have BK874 := n1_; have GW874 := n2_; have GE874 := n3_; clear n0_ n1_ n2_ n3_; clear hb hbox hg) | ((with_reducible refine gate_callee (f := 66) rfl ?_); refine goesL_ (some 12) rfl rfl Try.func66 (by kernel_rfl) rfl #[.slice A0 l0.length c0] rfl zf50_4 ?_; (with_reducible refine (spec_l01New.calls k _ _ l0 t875 t876 t877 w _ ?side1 ?side2 ?side3 A2.out).mono ?_); (case side1 => repeat (first | (with_reducible first | exact HB.out | apply below_alloc | apply pw_below_drewN | apply below_drew1 | refine below_set ?_ GE874.out) | exact HB.out)); (case side2 => exact HR0.out); (case side3 => exact HC0.out); rintro e w189 ⟨g878, rfl, hi, hb, hb2⟩; refine ⟨_, rfl, ?_⟩; have n0_ := Aside0.mk (blk_below (g := gb874) (o := .cells #[.int .i64 0, .int .i64 0] 49 (0, 0)) zf50_2 hb2); have n1_ := Aside0.mk (hb); have n2_ := Aside0.mk (hi); have n3_ := Aside0.mk (IsS109.ne_blk hi (blk_below (g := gb874) (o := .cells #[.int .i64 0, .int .i64 0] 49 (0, 0)) zf50_2 hb2) (by decide)); have n4_ := Aside0.mk (Ne.symm (IsS109.ne_blk hi (blk_below (g := gb874) (o := .cells #[.int .i64 0, .int .i64 0] 49 (0, 0)) zf50_2 hb2) (by decide))); clear BK874; clear HB; have BK874 := n0_; have HB := n1_; have HI878 := n2_; have NB878_874 := n3_; have NB874_878 := n4_; clear n0_ n1_ n2_ n3_ n4_; (try clear hb); (try clear hb2); (try clear hk); (try clear hi)) | ((with_reducible refine gate_callee (f := 85) rfl ?_); refine goesL_ (some 14) rfl rfl Try.func85 (by kernel_rfl) rfl #[.pointer (some ⟨g878, 0, none⟩)] rfl zf50_4 ?_; (with_reducible refine (spec_l07AnyLimits.calls g878 t875 t876 t877 t879 t880 t881 t882 w _ ?side1 ?side2 A3.out).mono ?_); (case side1 => repeat (first | (with_reducible first | exact HI878.out | apply IsS109.alloc | apply IsS109.drewN | apply IsS109.drew | apply IsS109.set_1 | apply IsS109.set_2 | refine IsS109.far ?_ NB878_874.out _) | exact HI878.out)); (case side2 => repeat (first | (with_reducible first | exact HB.out | apply below_alloc | apply pw_below_drewN | apply below_drew1 | refine below_set ?_ (IsS109.ge HI878.out) | refine below_set ?_ GE874.out) | exact HB.out)); rintro e w190 ⟨rfl, hi, hb, hk⟩; refine ⟨_, rfl, ?_⟩; have n0_ := Aside0.mk (KeepBut.blk hk (g' := gb874) (o := .cells #[.int .i64 0, .int .i64 0] 49 (0, 0)) zf50_2 NB874_878.out (by simp)); have n1_ := Aside0.mk (hb); have n2_ := Aside0.mk (hi); clear BK874; clear HB; clear HI878; have BK874 := n0_; have HB := n1_; have HI878 := n2_; clear n0_ n1_ n2_; (try clear hb); (try clear hb2); (try clear hk); (try clear hi)) | ((with_reducible refine gate_dst (N := 6) rfl ?_); refine box_event ?hg (N := 6) ?hd (cs := #[.int .i64 0, .int .i64 0]) (t := 49) ?hr ?_; (case hd => rfl); (case hg => rfl); (case hr => first | (go_simp; done) | (go_simp; rfl)); intro gb883 hg w191 hbox hb; have n0_ := Aside0.mk (blk_below (g := gb874) (o := .cells #[.int .i64 0, .int .i64 0] 49 (0, 0)) zf50_2 hb); have n1_ := Aside0.mk (IsS109.below zf50_18 hb); have n2_ := Aside0.mk (below_step zf50_7 hb); have n3_ := Aside0.mk (hbox); have n4_ := Aside0.mk ((by rw [hg]; exact (below_size zf50_7) : w.heap.size ≤ gb883)); have n5_ := Aside0.mk ((by rw [hg]; exact (below_size zf50_7) : w.heap.size ≤ gb883)); have n6_ := Aside0.mk ((zf50_22 : gb874 ≠ gb883)); have n7_ := Aside0.mk ((zf50_23 : gb883 ≠ gb874)); have n8_ := Aside0.mk ((zf50_15 : g878 ≠ gb883)); have n9_ := Aside0.mk ((zf50_16 : gb883 ≠ g878)); clear BK874; clear HI878; clear HB; have BK874 := n0_; have HI878 := n1_; have HB := n2_; have BK883 := n3_; have GW883 := n4_; have GE883 := n5_; have NB874_883 := n6_; have NB883_874 := n7_; have NB878_883 := n8_; have NB883_878 := n9_; clear n0_ n1_ n2_ n3_ n4_ n5_ n6_ n7_ n8_ n9_; clear hb hbox hg; have hnb192 := NB883_874.out; have hnc192 := NB874_883.out; have hnb193 := NB883_878.out; have hnc193 := NB878_883.out; have hcz194_0 : w191.cell? ⟨gb883, 0, none⟩ = some (.int .i64 0) := (blk_cell BK883.out 0).trans rfl; have hcz194_1 : w191.cell? ⟨gb883, 1, none⟩ = some (.int .i64 0) := (blk_cell BK883.out 1).trans rfl; have hfz194_0 := blk_frozen BK883.out 0; have hfz194_1 := blk_frozen BK883.out 1) | ((with_reducible refine gate_callee (f := 86) rfl ?_); refine goesL_ (some 16) rfl rfl Try.func86 (by kernel_rfl) rfl #[.pointer (some ⟨g878, 0, none⟩), .int .i64 8] rfl zf50_4 ?_; (with_reducible refine (spec_l07AnyPieces.calls k g878 t875 t881 t882 8 t884 t887 t888 w _ ?side1 ?side2 A4.out).mono ?_); (case side1 => repeat (first | (with_reducible first | exact HI878.out | apply IsS109.alloc | apply IsS109.drewN | apply IsS109.drew | apply IsS109.set_1 | apply IsS109.set_2 | refine IsS109.far ?_ NB878_874.out _ | refine IsS109.far ?_ NB878_883.out _) | exact HI878.out)); (case side2 => repeat (first | (with_reducible first | exact HB.out | apply below_alloc | apply pw_below_drewN | apply below_drew1 | refine below_set ?_ (IsS109.ge HI878.out) | refine below_set ?_ GE874.out | refine below_set ?_ GE883.out) | exact HB.out)); rintro e w195 ⟨v885, rfl, ho0, hi, hb, hk⟩; refine ⟨_, rfl, ?_⟩; have n0_ := Aside0.mk (KeepBut.blk hk (g' := gb874) (o := .cells #[.int .i64 0, .int .i64 0] 49 (0, 0)) zf50_13 NB874_878.out (by simp)); have n1_ := Aside0.mk (KeepBut.blk hk (g' := gb883) (o := .cells #[.int .i64 t879, .int .i64 t880] 49 (0, 0)) zf50_10 NB883_878.out (by simp)); have n2_ := Aside0.mk (Kd.R_lower (Kd.R_newM (M := fun k_ => (w.heap.size ≤ k_)) ho0 (below_size zf50_0) (fun k_ h_ => h_)) (below_size zf50_0)); have n3_ := Aside0.mk (hb); have n4_ := Aside0.mk (hi); clear BK874; clear BK883; clear HB; clear HI878; have BK874 := n0_; have BK883 := n1_; have HO886 := n2_; have HB := n3_; have HI878 := n4_; clear n0_ n1_ n2_ n3_ n4_; (try clear hb); (try clear hb2); (try clear hk); (try clear hi); (try clear ho0); have hcz196_0 : w195.cell? ⟨gb883, 0, none⟩ = some (.int .i64 t879) := (blk_cell BK883.out 0).trans rfl; have hcz196_1 : w195.cell? ⟨gb883, 1, none⟩ = some (.int .i64 t880) := (blk_cell BK883.out 1).trans rfl; have hfz196_0 := blk_frozen BK883.out 0; have hfz196_1 := blk_frozen BK883.out 1; obtain ⟨Ao197, co197, eo197⟩ := Kd.R_slice HO886.out; subst eo197) | ((with_reducible refine gate_callee (f := 44) rfl ?_); refine goesL_ (some 19) rfl rfl Try.func44 (by kernel_rfl) rfl #[.agg #[.int .i64 t879, .int .i64 t880], .slice Ao197 t884.length co197] rfl zf50_4 ?_; (with_reducible refine (spec_FirstFit.calls k t879 t880 _ _ t884 t889 _ ?side1 ?side2 A5.out).mono ?_); (case side1 => repeat (first | exact (Kd.R_reads' HO886.out).2.2 | (with_reducible refine Kd.C_alloc ?_ _) | (with_reducible refine Kd.C_drewN ?_ _) | (with_reducible refine Kd.C_drew ?_))); (case side2 => exact (Kd.R_reads' HO886.out).2.1); rintro e w198 ⟨v890, rfl, ho0, hb⟩; refine ⟨_, rfl, ?_⟩; have n0_ := Aside0.mk (Kd.R_below zf50_6 hb); have n1_ := Aside0.mk (Kd.N_lower (Kd.N_mono (ok' := fun k_ => (w.heap.size ≤ k_) ∧ some k_ ≠ (.slice Ao197 t884.length co197 : Value).ownBlock ∧ k_ ≠ gb874 ∧ k_ ≠ gb883 ∧ k_ ≠ g878) ho0 (fun k_ hk_ => ⟨(Nat.le_trans (below_size zf50_0) hk_), (Kd.fresh' (Kd.R_lt zf50_6) k_ hk_), (Kd.freshB (g := gb874) (o := .cells #[.int .i64 0, .int .i64 0] 49 (0, 0)) zf50_2 k_ hk_), (Kd.freshB (g := gb883) (o := .cells #[.int .i64 t879, .int .i64 t880] 49 (0, 0)) zf50_5 k_ hk_), (IsS109.fresh zf50_3 k_ hk_)⟩)) (below_size zf50_0)); have n2_ := Aside0.mk (blk_below (g := gb874) (o := .cells #[.int .i64 0, .int .i64 0] 49 (0, 0)) zf50_2 hb); have n3_ := Aside0.mk (IsS109.below zf50_3 hb); have n4_ := Aside0.mk (blk_below (g := gb883) (o := .cells #[.int .i64 t879, .int .i64 t880] 49 (0, 0)) zf50_5 hb); have n5_ := Aside0.mk (below_step zf50_0 hb); clear HO886; clear BK874; clear HI878; clear BK883; clear HB; have HO886 := n0_; have HO891 := n1_; have BK874 := n2_; have HI878 := n3_; have BK883 := n4_; have HB := n5_; clear n0_ n1_ n2_ n3_ n4_ n5_; (try clear hb); (try clear hb2); (try clear hk); (try clear hi); (try clear ho0); obtain ⟨Ao199, co199, eo199⟩ := Kd.N_slice HO891.out; subst eo199; have hcz200_0 : w198.cell? ⟨gb883, 0, none⟩ = some (.int .i64 t879) := (blk_cell BK883.out 0).trans rfl; have hcz200_1 : w198.cell? ⟨gb883, 1, none⟩ = some (.int .i64 t880) := (blk_cell BK883.out 1).trans rfl; have hfz200_0 := blk_frozen BK883.out 0; have hfz200_1 := blk_frozen BK883.out 1; have hnb201 := NB874_878.out; have hnc201 := NB878_874.out; have hcz202_0 : w198.cell? ⟨gb874, 0, none⟩ = some (.int .i64 0) := (blk_cell BK874.out 0).trans rfl; have hcz202_1 : w198.cell? ⟨gb874, 1, none⟩ = some (.int .i64 0) := (blk_cell BK874.out 1).trans rfl; have hfz202_0 := blk_frozen BK874.out 0; have hfz202_1 := blk_frozen BK874.out 1))
  refine bodyPost_ret (results_ctt rfl _ _ gb874 49 #[.int .i64 t879, .int .i64 t880] (0, 0) _ rfl zf50_11 Try.underlying49 rfl (by kernel_rfl)) rfl ?_
  exact ⟨_, _, by first | rfl | (simp [errW_none, errW_some] <;> rfl) | (simp [*, errW_none, errW_some] <;> rfl), by (with_reducible repeat (first | apply Kd.R_alloc | apply Kd.R_drewN | apply Kd.R_drew)); exact Kd.R_mono (Kd.R_far (p := ⟨gb874, 1, none⟩) (Kd.R_far (p := ⟨gb874, 0, none⟩) (Kd.R_types HO886.out BK874.out (by decide)) (fun _ hk => hk.2) (.int .i64 t879)) (fun _ hk => hk.2) (.int .i64 t880)) (fun _ hk => hk.1.1), by (with_reducible repeat (first | apply Kd.N_alloc | apply Kd.N_drewN | apply Kd.N_drew)); exact Kd.N_mono (Kd.N_far (p := ⟨gb874, 1, none⟩) (Kd.N_far (p := ⟨gb874, 0, none⟩) (Kd.N_mono HO891.out (fun k_ hk => (⟨hk, hk.2.2.1⟩ : _ ∧ k_ ≠ gb874))) (fun _ hk => hk.2) (.int .i64 t879)) (fun _ hk => hk.2) (.int .i64 t880)) (fun _ hk => ⟨hk.1.1, hk.1.2.1⟩), by repeat (first | (with_reducible first | exact HB.out | apply below_alloc | apply pw_below_drewN | apply below_drew1 | refine below_set ?_ (IsS109.ge HI878.out) | refine below_set ?_ GE874.out | refine below_set ?_ GE883.out) | exact HB.out)⟩

end Go.Proofs.Ytnldmnlfocigaaa.F

-- PRINTED by print.py (a twelfth state) out of the translation. Not trusted: Lean checks it.
import Derived.Test.YtnldmnlfocigaaaF
import Derived.Test.YtnldmnlfocigaaaF107
import Derived.Test.YtnldmnlfocigaaaF87
import Derived.Test.YtnldmnlfocigaaaF88
import Derived.Test.YtnldmnlfocigaaaF97
namespace Go.Proofs.Ytnldmnlfocigaaa.F
open Go.Proofs.Ytnldmnlfocigaaa.Opn
open Go.RowKit Go.Proofs.YtnldmnlfocigaaaW.PrintWords Go.Proofs.YtnldmnlfocigaaaW.PrintLast
set_option linter.unusedVariables false
set_option linter.unusedSimpArgs false

theorem zf86_9 {p : Prop} (h : p := by have h_ : (1 : Int) < ((t844.length : Int) : Int) := of_decide_eq_true zf86_4; first | exact h_ | (have e_ := (Kd.R_reads' HO846.out).1; omega) | simpa using h_) : p := h
theorem zf86_8 {p : Prop} (h : p := by have h_ : (0 : Int) < ((t844.length : Int) : Int) := of_decide_eq_true zf86_4; first | exact h_ | (have e_ := (Kd.R_reads' HO846.out).1; omega) | simpa using h_) : p := h
theorem zf86_7 {p : Prop} (h : p := by have h_ : ((ji25) : Int) < ((t844.length : Int) : Int) := of_decide_eq_true zf86_4; first | exact h_ | (have e_ := (Kd.R_reads' HO846.out).1; omega) | simpa using h_) : p := h
theorem zf86_6 {p : Prop} (h : p := by (with_reducible repeat (first | apply Kd.R_alloc | apply Kd.R_drewN | apply Kd.R_drew)); exact HO_5.out) : p := h
theorem zf86_5 {p : Prop} (h : p := by repeat (first | (with_reducible first | exact HB.out | apply below_alloc | apply pw_below_drewN | apply below_drew1 | refine below_set ?_ (IsS109.ge HI0.out)) | exact HB.out)) : p := h
theorem zf86_4 {p : Prop} (h : p := by first | (with_reducible assumption) | assumption) : p := h
theorem zf86_3 {p : Prop} (h : p := by repeat (first | (with_reducible first | exact HI0.out | apply IsS109.alloc | apply IsS109.drewN | apply IsS109.drew | apply IsS109.set_1 | apply IsS109.set_2) | exact HI0.out)) : p := h
theorem zf86_2 {p : Prop} (h : p := by (with_reducible repeat (first | apply Kd.R_alloc | apply Kd.R_drewN | apply Kd.R_drew)); exact HO846.out) : p := h
theorem zf86_1 {p : Prop} (h : p := by (try simp only [List.map_toArray, List.map_cons, List.map_nil]); first | done | rfl | (simp only [List.length_drop, List.length_take]; rfl)) : p := h
theorem zf86_0 {p : Prop} (h : p := by repeat (first | (with_reducible first | exact HK.out | apply KeepBut.set_ | apply keep_drewN | apply keep_drew | apply keep_alloc) | exact HK.out)) : p := h
/-! ### spec_l07AnyPieces: function 86 -/
def spec_l07AnyPieces.l0 : Nat → List (S80) → List Int → Int → Int → Option ((List (S80)) × Int × Int)
  | 0, _, _, _, _ => none
  | k + 1, x5, x1000, x1001, x1002 => (spec_l01Below.f x1000 x1001 x1002 2).bind fun bt868 => (if (x5.length : Int) < (wrap64 (40 + bt868.1)) then (if x5.length < 5864062014805 then (spec_l07AnyPieces.l0 k (x5 ++ [(⟨wrap64 (200 + (x5.length : Int)), 20, 0⟩ : S80)]) x1000 bt868.2.1 bt868.2.2) else (none)) else (some (x5, bt868.2.1, bt868.2.2)))
def spec_l07AnyPieces.f (k : Nat) (s0_0 : List Int) (s0_1 : Int) (s0_2 : Int) (a1 : Int) : Option ((List (S80)) × Int × Int) := (spec_l07Pieces.f k s0_0 s0_1 s0_2 a1).bind fun bt844 => ((spec_l01Below.f s0_0 bt844.2.1 bt844.2.2 18).bind fun bt849 => (if bt849.1 = 0 then (if (bt844.1.length : Int) > 0 then ((spec_l01PickInt.f s0_0 bt849.2.1 bt849.2.2 (([0, 61, 60, (-1)] : List Int))).bind fun bt855 => (if 0 < (bt844.1.length : Int) then (some ((bt844.1.set (0 : Int).toNat (⟨(rd_T80 bt844.1 0).f0, bt855.1, (rd_T80 bt844.1 0).f2⟩ : S80)), bt855.2.1, bt855.2.2)) else (none))) else (some (bt844.1, bt849.2.1, bt849.2.2))) else (if bt849.1 = 1 then (if (bt844.1.length : Int) > 0 then ((spec_l01PickInt.f s0_0 bt849.2.1 bt849.2.2 (([(-1), 5, 6] : List Int))).bind fun bt862 => (if 0 ≤ (wrap64 ((bt844.1.length : Int) - 1)) then (if (wrap64 ((bt844.1.length : Int) - 1)) < (bt844.1.length : Int) then (some ((bt844.1.set ((wrap64 ((bt844.1.length : Int) - 1)) : Int).toNat (⟨(rd_T80 bt844.1 (wrap64 ((bt844.1.length : Int) - 1))).f0, (rd_T80 bt844.1 (wrap64 ((bt844.1.length : Int) - 1))).f1, bt862.1⟩ : S80)), bt862.2.1, bt862.2.2)) else (none)) else (none))) else (some (bt844.1, bt849.2.1, bt849.2.2))) else (if bt849.1 = 2 then (if (bt844.1.length : Int) > 1 then (if 0 < (bt844.1.length : Int) then (if 1 < (bt844.1.length : Int) then (some ((bt844.1.set (1 : Int).toNat (⟨(rd_T80 bt844.1 0).f0, (rd_T80 bt844.1 1).f1, (rd_T80 bt844.1 1).f2⟩ : S80)), bt849.2.1, bt849.2.2)) else (none)) else (none)) else (some (bt844.1, bt849.2.1, bt849.2.2))) else (if bt849.1 = 3 then (spec_l07AnyPieces.l0 k bt844.1 s0_0 bt849.2.1 bt849.2.2) else (some (bt844.1, bt849.2.1, bt849.2.2)))))))
theorem spec_l07AnyPieces.mono_l : ∀ k, (∀ y0 y1 y2 y3, LeO (spec_l07AnyPieces.l0 k y0 y1 y2 y3) (spec_l07AnyPieces.l0 (k + 1) y0 y1 y2 y3))
  | 0 => fun _ _ _ _ r h => by simp [spec_l07AnyPieces.l0] at h
  | k + 1 => by
    have ih0 := spec_l07AnyPieces.mono_l k
    · intro y0 y1 y2 y3
      unfold spec_l07AnyPieces.l0
      repeat' first
      | (with_reducible exact ih0 _ _ _ _)
      | (with_reducible exact spec_l07Pieces.mono _ _ _ _ _)
      | (with_reducible exact LeO.refl _)
      | (with_reducible exact LeO.none _)
      | (with_reducible refine LeO.ite ?_ ?_)
      | (with_reducible refine LeO.bind ?_ (fun _ => ?_))
      | exact ih0 _ _ _ _
      | exact spec_l07Pieces.mono _ _ _ _ _
      | exact LeO.none _
      | refine LeO.ite ?_ ?_
      | refine LeO.bind ?_ (fun _ => ?_)
theorem spec_l07AnyPieces.mono : ∀ a0 a1 a2 a3 k, LeO (spec_l07AnyPieces.f k a0 a1 a2 a3) (spec_l07AnyPieces.f (k + 1) a0 a1 a2 a3) := by
  intro a0 a1 a2 a3 k
  have ih0 := spec_l07AnyPieces.mono_l k
  unfold spec_l07AnyPieces.f
  repeat' first
      | (with_reducible exact ih0 _ _ _ _)
      | (with_reducible exact spec_l07Pieces.mono _ _ _ _ _)
      | (with_reducible exact LeO.refl _)
      | (with_reducible exact LeO.none _)
      | (with_reducible refine LeO.ite ?_ ?_)
      | (with_reducible refine LeO.bind ?_ (fun _ => ?_))
      | exact ih0 _ _ _ _
      | exact spec_l07Pieces.mono _ _ _ _ _
      | exact LeO.none _
      | refine LeO.ite ?_ ?_
      | refine LeO.bind ?_ (fun _ => ?_)
set_option maxHeartbeats 8000000 in
set_option maxRecDepth 100000 in
theorem spec_l07AnyPieces.calls (k : Nat) (g : Nat) (s0_0 : List Int) (s0_1 : Int) (s0_2 : Int) (a1 : Int) (r1 : List (S80)) (r2 : Int) (r3 : Int) (w0 w : World) (hI : IsS109 w0 w g s0_0 s0_1 s0_2) (hB : Below w0.heap.size w0 w) (h : spec_l07AnyPieces.f k s0_0 s0_1 s0_2 a1 = some (r1, r2, r3)) :
    Calls Try.prog 86 #[.pointer (some ⟨g, 0, none⟩), .int .i64 a1] w fun e w' => ∃ v0_ : Value, e = .returned (v0_) ∧ Kd.R k80 80 w' w.heap.size (fun _ => True) v0_ r1 ∧ IsS109 w0 w' g s0_0 r2 r3 ∧ Below w0.heap.size w0 w' ∧ KeepBut w w' g none := by
  have hu80 := Try.underlying80
  have HI0 := Aside0.mk hI
  have HK := Aside0.mk (KeepBut.refl w g none)
  have HL := Aside0.mk hB.size
  clear hI
  have HW0 := Aside0.mk hB.size
  have HB := Aside0.mk hB
  clear hB
  have H : ((spec_l07Pieces.f k s0_0 s0_1 s0_2 a1).bind fun bt844 => ((spec_l01Below.f s0_0 bt844.2.1 bt844.2.2 18).bind fun bt849 => (if bt849.1 = 0 then (if (bt844.1.length : Int) > 0 then ((spec_l01PickInt.f s0_0 bt849.2.1 bt849.2.2 (([0, 61, 60, (-1)] : List Int))).bind fun bt855 => (if 0 < (bt844.1.length : Int) then (some ((bt844.1.set (0 : Int).toNat (⟨(rd_T80 bt844.1 0).f0, bt855.1, (rd_T80 bt844.1 0).f2⟩ : S80)), bt855.2.1, bt855.2.2)) else (none))) else (some (bt844.1, bt849.2.1, bt849.2.2))) else (if bt849.1 = 1 then (if (bt844.1.length : Int) > 0 then ((spec_l01PickInt.f s0_0 bt849.2.1 bt849.2.2 (([(-1), 5, 6] : List Int))).bind fun bt862 => (if 0 ≤ (wrap64 ((bt844.1.length : Int) - 1)) then (if (wrap64 ((bt844.1.length : Int) - 1)) < (bt844.1.length : Int) then (some ((bt844.1.set ((wrap64 ((bt844.1.length : Int) - 1)) : Int).toNat (⟨(rd_T80 bt844.1 (wrap64 ((bt844.1.length : Int) - 1))).f0, (rd_T80 bt844.1 (wrap64 ((bt844.1.length : Int) - 1))).f1, bt862.1⟩ : S80)), bt862.2.1, bt862.2.2)) else (none)) else (none))) else (some (bt844.1, bt849.2.1, bt849.2.2))) else (if bt849.1 = 2 then (if (bt844.1.length : Int) > 1 then (if 0 < (bt844.1.length : Int) then (if 1 < (bt844.1.length : Int) then (some ((bt844.1.set (1 : Int).toNat (⟨(rd_T80 bt844.1 0).f0, (rd_T80 bt844.1 1).f1, (rd_T80 bt844.1 1).f2⟩ : S80)), bt849.2.1, bt849.2.2)) else (none)) else (none)) else (some (bt844.1, bt849.2.1, bt849.2.2))) else (if bt849.1 = 3 then (spec_l07AnyPieces.l0 k bt844.1 s0_0 bt849.2.1 bt849.2.2) else (some (bt844.1, bt849.2.1, bt849.2.2)))))))) = some (r1, r2, r3) := h
  clear h
  replace H := Option.bind_eq_some_iff.mp H
  obtain ⟨⟨t844, t847, t848⟩, A30, H⟩ := H
  replace H : ((spec_l01Below.f s0_0 t847 t848 18).bind fun bt849 => (if bt849.1 = 0 then (if (t844.length : Int) > 0 then ((spec_l01PickInt.f s0_0 bt849.2.1 bt849.2.2 (([0, 61, 60, (-1)] : List Int))).bind fun bt855 => (if 0 < (t844.length : Int) then (some ((t844.set (0 : Int).toNat (⟨(rd_T80 t844 0).f0, bt855.1, (rd_T80 t844 0).f2⟩ : S80)), bt855.2.1, bt855.2.2)) else (none))) else (some (t844, bt849.2.1, bt849.2.2))) else (if bt849.1 = 1 then (if (t844.length : Int) > 0 then ((spec_l01PickInt.f s0_0 bt849.2.1 bt849.2.2 (([(-1), 5, 6] : List Int))).bind fun bt862 => (if 0 ≤ (wrap64 ((t844.length : Int) - 1)) then (if (wrap64 ((t844.length : Int) - 1)) < (t844.length : Int) then (some ((t844.set ((wrap64 ((t844.length : Int) - 1)) : Int).toNat (⟨(rd_T80 t844 (wrap64 ((t844.length : Int) - 1))).f0, (rd_T80 t844 (wrap64 ((t844.length : Int) - 1))).f1, bt862.1⟩ : S80)), bt862.2.1, bt862.2.2)) else (none)) else (none))) else (some (t844, bt849.2.1, bt849.2.2))) else (if bt849.1 = 2 then (if (t844.length : Int) > 1 then (if 0 < (t844.length : Int) then (if 1 < (t844.length : Int) then (some ((t844.set (1 : Int).toNat (⟨(rd_T80 t844 0).f0, (rd_T80 t844 1).f1, (rd_T80 t844 1).f2⟩ : S80)), bt849.2.1, bt849.2.2)) else (none)) else (none)) else (some (t844, bt849.2.1, bt849.2.2))) else (if bt849.1 = 3 then (spec_l07AnyPieces.l0 k t844 s0_0 bt849.2.1 bt849.2.2) else (some (t844, bt849.2.1, bt849.2.2))))))) = some (r1, r2, r3) := H
  have A3 := Aside0.mk A30
  clear A30
  replace H := Option.bind_eq_some_iff.mp H
  obtain ⟨⟨t849, t850, t851⟩, A40, H⟩ := H
  replace H : (if t849 = 0 then (if (t844.length : Int) > 0 then ((spec_l01PickInt.f s0_0 t850 t851 (([0, 61, 60, (-1)] : List Int))).bind fun bt855 => (if 0 < (t844.length : Int) then (some ((t844.set (0 : Int).toNat (⟨(rd_T80 t844 0).f0, bt855.1, (rd_T80 t844 0).f2⟩ : S80)), bt855.2.1, bt855.2.2)) else (none))) else (some (t844, t850, t851))) else (if t849 = 1 then (if (t844.length : Int) > 0 then ((spec_l01PickInt.f s0_0 t850 t851 (([(-1), 5, 6] : List Int))).bind fun bt862 => (if 0 ≤ (wrap64 ((t844.length : Int) - 1)) then (if (wrap64 ((t844.length : Int) - 1)) < (t844.length : Int) then (some ((t844.set ((wrap64 ((t844.length : Int) - 1)) : Int).toNat (⟨(rd_T80 t844 (wrap64 ((t844.length : Int) - 1))).f0, (rd_T80 t844 (wrap64 ((t844.length : Int) - 1))).f1, bt862.1⟩ : S80)), bt862.2.1, bt862.2.2)) else (none)) else (none))) else (some (t844, t850, t851))) else (if t849 = 2 then (if (t844.length : Int) > 1 then (if 0 < (t844.length : Int) then (if 1 < (t844.length : Int) then (some ((t844.set (1 : Int).toNat (⟨(rd_T80 t844 0).f0, (rd_T80 t844 1).f1, (rd_T80 t844 1).f2⟩ : S80)), t850, t851)) else (none)) else (none)) else (some (t844, t850, t851))) else (if t849 = 3 then (spec_l07AnyPieces.l0 k t844 s0_0 t850 t851) else (some (t844, t850, t851)))))) = some (r1, r2, r3) := H
  have A4 := Aside0.mk A40
  clear A40
  by_cases c5 : t849 = 0
  · rw [if_pos c5] at H
    have c5b0 : (t849 == 0) = true := beq_iff_eq.mpr c5
    have c5b1 : (t849 != 0) = false := bne_eq_false_iff_eq.mpr c5
    clear c5
    by_cases c6 : (t844.length : Int) > 0
    · rw [if_pos c6] at H
      have c6b0 : decide (0 < (t844.length : Int)) = true := decide_eq_true c6
      have c6b1 : decide (0 < t844.length) = true := decide_eq_true (by omega)
      clear c6
      obtain ⟨y852, hy852⟩ : ∃ y_ : List Int, y_ = (([0, 61, 60, (-1)] : List Int)) := ⟨_, rfl⟩
      replace H : ((spec_l01PickInt.f s0_0 t850 t851 y852).bind fun bt855 => (if 0 < (t844.length : Int) then (some ((t844.set (0 : Int).toNat (⟨(rd_T80 t844 0).f0, bt855.1, (rd_T80 t844 0).f2⟩ : S80)), bt855.2.1, bt855.2.2)) else (none))) = some (r1, r2, r3) := by first | (rw [hy852]; with_reducible exact H) | (have H2_ := (Option.bind_some _ _).symm.trans H; rw [hy852]; with_reducible exact H2_) | (have H2_ := (Option.bind_some _ _).symm.trans H; with_reducible exact H2_) | with_reducible exact H | (rw [hy852]; exact H) | exact H
      have Ny852 := Aside0.mk hy852
      clear hy852
      replace H := Option.bind_eq_some_iff.mp H
      obtain ⟨⟨t855, t856, t857⟩, A70, H⟩ := H
      replace H : (if 0 < (t844.length : Int) then (some ((t844.set (0 : Int).toNat (⟨(rd_T80 t844 0).f0, t855, (rd_T80 t844 0).f2⟩ : S80)), t856, t857)) else (none)) = some (r1, r2, r3) := H
      have A7 := Aside0.mk A70
      clear A70
      by_cases c8 : 0 < (t844.length : Int)
      · rw [if_pos c8] at H
        have c8b0 : decide (0 < (t844.length : Int)) = true := decide_eq_true c8
        have c8b1 : decide (0 < t844.length) = true := decide_eq_true (by omega)
        clear c8
        obtain ⟨y858, hy858⟩ : ∃ y_ : List (S80), y_ = (t844.set (0 : Int).toNat (⟨(rd_T80 t844 0).f0, t855, (rd_T80 t844 0).f2⟩ : S80)) := ⟨_, rfl⟩
        replace H : (some (y858, t856, t857)) = some (r1, r2, r3) := by first | (rw [hy858]; with_reducible exact H) | (have H2_ := (Option.bind_some _ _).symm.trans H; rw [hy858]; with_reducible exact H2_) | (have H2_ := (Option.bind_some _ _).symm.trans H; with_reducible exact H2_) | with_reducible exact H | (rw [hy858]; exact H) | exact H
        have Ny858 := Aside0.mk hy858
        clear hy858
        simp only [Option.some.injEq, Prod.mk.injEq] at H
        obtain ⟨rfl, rfl, rfl⟩ := H
        go_enter Try.func86, Try.ntmps86
        go_wp2_with (first | ((with_reducible refine gate_callee (f := 97) rfl ?_); refine goesL_ (some 9) rfl rfl Try.func97 (by kernel_rfl) rfl #[.pointer (some ⟨g, 0, none⟩), .int .i64 a1] rfl zf86_1 ?_; (with_reducible refine (spec_l07Pieces.calls k g s0_0 s0_1 s0_2 a1 t844 t847 t848 w0 _ ?side1 ?side2 A3.out).mono ?_); (case side1 => repeat (first | (with_reducible first | exact HI0.out | apply IsS109.alloc | apply IsS109.drewN | apply IsS109.drew | apply IsS109.set_1 | apply IsS109.set_2) | exact HI0.out)); (case side2 => repeat (first | (with_reducible first | exact HB.out | apply below_alloc | apply pw_below_drewN | apply below_drew1 | refine below_set ?_ (IsS109.ge HI0.out)) | exact HB.out)); rintro e w10 ⟨v845, rfl, ho0, hi, hb, hk⟩; refine ⟨_, rfl, ?_⟩; have n0_ := Aside0.mk (Kd.R_lower ho0 (keep_size (w := w) (g := g) (row := none) zf86_0)); have n1_ := Aside0.mk (KeepBut.trans zf86_0 hk (.inl rfl)); have n2_ := Aside0.mk (hb); have n3_ := Aside0.mk (hi); clear HK; clear HB; clear HI0; have HO846 := n0_; have HK := n1_; have HB := n2_; have HI0 := n3_; clear n0_ n1_ n2_ n3_; (try clear hb); (try clear hb2); (try clear hk); (try clear hi); (try clear ho0); obtain ⟨Ao11, co11, eo11⟩ := Kd.R_slice HO846.out; subst eo11) | ((with_reducible refine gate_callee (f := 87) rfl ?_); refine goesL_ (some 13) rfl rfl Try.func87 (by kernel_rfl) rfl #[.pointer (some ⟨g, 0, none⟩), .int .i64 18] rfl zf86_1 ?_; (with_reducible refine (spec_l01Below.calls g s0_0 t847 t848 18 t849 t850 t851 w0 _ ?side1 ?side2 A4.out).mono ?_); (case side1 => repeat (first | (with_reducible first | exact HI0.out | apply IsS109.alloc | apply IsS109.drewN | apply IsS109.drew | apply IsS109.set_1 | apply IsS109.set_2) | exact HI0.out)); (case side2 => repeat (first | (with_reducible first | exact HB.out | apply below_alloc | apply pw_below_drewN | apply below_drew1 | refine below_set ?_ (IsS109.ge HI0.out)) | exact HB.out)); rintro e w12 ⟨rfl, hi, hb, hk⟩; refine ⟨_, rfl, ?_⟩; have n0_ := Aside0.mk (Kd.R_mono (Kd.R_keep (IsS109.apart (show IsS109 w0 _ g s0_0 t847 t848 from by repeat (first | (with_reducible first | exact HI0.out | apply IsS109.alloc | apply IsS109.drewN | apply IsS109.drew | apply IsS109.set_1 | apply IsS109.set_2) | exact HI0.out)) zf86_2 (by decide)) hk (fun _ h => h.2)) (fun _ h => h.1)); have n1_ := Aside0.mk (KeepBut.trans zf86_0 hk (.inl rfl)); have n2_ := Aside0.mk (hb); have n3_ := Aside0.mk (hi); clear HO846; clear HK; clear HB; clear HI0; have HO846 := n0_; have HK := n1_; have HB := n2_; have HI0 := n3_; clear n0_ n1_ n2_ n3_; (try clear hb); (try clear hb2); (try clear hk); (try clear hi)) | ((with_reducible refine gate_dst (N := 20) rfl ?_); refine Kd.R_lit (Kd.int .i64) _ 3 ?hg (N := 20) ?hd (xs := ([0, 61, 60, (-1)] : List Int)) (inner := [.int .i64 0, .int .i64 61, .int .i64 60, .int .i64 (-1)]) (ok := fun _ => True) (okp := fun _ => True) ?hr ?hp (fun _ hk => hk) trivial (Below.refl _ _) (Nat.le_refl _) (by simp) ?_; (case hd => rfl); (case hg => rfl); (case hr => first | (go_simp; done) | (go_simp; rfl)); (case hp => exact (Reps.one (show Kd.M (Kd.int .i64) _ _ _ 0 [.int .i64 0] from rfl) (Reps.one (show Kd.M (Kd.int .i64) _ _ _ 61 [.int .i64 61] from rfl) (Reps.one (show Kd.M (Kd.int .i64) _ _ _ 60 [.int .i64 60] from rfl) (Reps.one (show Kd.M (Kd.int .i64) _ _ _ (-1) [.int .i64 (-1)] from rfl) (Reps.none _ _)))))); intro v853 w13 ho14 hb hg_ hnew_; clear hg_ hnew_; (first | rw [← Ny852.out] at ho14 | (simp only [Int.reduceToNat] at ho14; rw [← Ny852.out] at ho14)); have n0_ := Aside0.mk (Kd.R_below zf86_2 hb); have n1_ := Aside0.mk (Kd.R_lower ho14 (keep_size (w := w) (g := g) (row := none) zf86_0)); have n2_ := Aside0.mk (IsS109.below zf86_3 hb); have n3_ := Aside0.mk (KeepBut.trans zf86_0 (KeepBut.of_below hb g none) (.inl rfl)); have n4_ := Aside0.mk (below_step zf86_5 hb); clear HO846; clear HI0; clear HK; clear HB; have HO846 := n0_; have HO854 := n1_; have HI0 := n2_; have HK := n3_; have HB := n4_; clear n0_ n1_ n2_ n3_ n4_; clear hb ho14; obtain ⟨Ao15, co15, eo15⟩ := Kd.R_slice HO854.out; subst eo15) | ((with_reducible refine gate_callee (f := 88) rfl ?_); refine goesL_ (some 21) rfl rfl Try.func88 (by kernel_rfl) rfl #[.pointer (some ⟨g, 0, none⟩), .slice Ao15 y852.length co15] rfl zf86_1 ?_; (with_reducible refine (spec_l01PickInt.calls g s0_0 t850 t851 _ _ y852 t855 t856 t857 w0 _ ?side1 ?side2 ?side3 ?side4 ?side5 A7.out).mono ?_); (case side1 => repeat (first | (with_reducible first | exact HI0.out | apply IsS109.alloc | apply IsS109.drewN | apply IsS109.drew | apply IsS109.set_1 | apply IsS109.set_2) | exact HI0.out)); (case side2 => repeat (first | (with_reducible first | exact HB.out | apply below_alloc | apply pw_below_drewN | apply below_drew1 | refine below_set ?_ (IsS109.ge HI0.out)) | exact HB.out)); (case side3 => repeat (first | exact (Kd.R_reads' HO854.out).2.2 | (with_reducible refine Kd.C_alloc ?_ _) | (with_reducible refine Kd.C_drewN ?_ _) | (with_reducible refine Kd.C_drew ?_))); (case side4 => exact (Kd.R_reads' HO854.out).2.1); (case side5 => exact far_slice (IsS109.own_ne HI0.out HO854.out (by decide))); rintro e w16 ⟨rfl, hi, hb, hk⟩; refine ⟨_, rfl, ?_⟩; have n0_ := Aside0.mk (Kd.R_mono (Kd.R_keep (IsS109.apart (show IsS109 w0 _ g s0_0 t850 t851 from by repeat (first | (with_reducible first | exact HI0.out | apply IsS109.alloc | apply IsS109.drewN | apply IsS109.drew | apply IsS109.set_1 | apply IsS109.set_2) | exact HI0.out)) zf86_2 (by decide)) hk (fun _ h => h.2)) (fun _ h => h.1)); have n1_ := Aside0.mk (Kd.R_mono (Kd.R_keep (IsS109.apart (show IsS109 w0 _ g s0_0 t850 t851 from by repeat (first | (with_reducible first | exact HI0.out | apply IsS109.alloc | apply IsS109.drewN | apply IsS109.drew | apply IsS109.set_1 | apply IsS109.set_2) | exact HI0.out)) (by (with_reducible repeat (first | apply Kd.R_alloc | apply Kd.R_drewN | apply Kd.R_drew)); exact HO854.out) (by decide)) hk (fun _ h => h.2)) (fun _ h => h.1)); have n2_ := Aside0.mk (KeepBut.trans zf86_0 hk (.inl rfl)); have n3_ := Aside0.mk (hb); have n4_ := Aside0.mk (hi); clear HO846; clear HO854; clear HK; clear HB; clear HI0; have HO846 := n0_; have HO854 := n1_; have HK := n2_; have HB := n3_; have HI0 := n4_; clear n0_ n1_ n2_ n3_ n4_; (try clear hb); (try clear hb2); (try clear hk); (try clear hi); have p9 : 0 ≤ (0 : Int) := (by omega); have q9 : (0 : Int) < ((t844.length : Int) : Int) := of_decide_eq_true zf86_4; have qi9 : (0 < t844.length) = True := eq_true (by omega); obtain ⟨go9, co9, eo9, gb9, gl9, cl9, HG9⟩ := Kd.R_form HO846.out (by omega); (first | cases eo9 | (injection eo9 with ea_ en_ ec_; (first | subst ea_ | (injection ea_ with ea_; subst ea_)); subst ec_; clear en_)); have GB9 := Aside0.mk gb9; have GG9 := Aside0.mk HG9; clear gb9 gl9 HG9; obtain ⟨ce9, hcl9, hM9, hcc9, hfr9⟩ := Kd.R_elem HO846.out z80 (0 : Int) p9 q9; obtain rfl := k80_openM hM9; have hx9_0 : w16.cell? ⟨go9, (0 : Int).toNat * 3, none⟩ = some (.int .i64 ((rd_T80 t844 0).f0)) := hcc9 0 _ rfl; have hx9_1 : w16.cell? ⟨go9, (0 : Int).toNat * 3 + 1, none⟩ = some (.int .i64 ((rd_T80 t844 0).f1)) := hcc9 1 _ rfl; have hx9_2 : w16.cell? ⟨go9, (0 : Int).toNat * 3 + 2, none⟩ = some (.int .i64 ((rd_T80 t844 0).f2)) := hcc9 2 _ rfl; have hf9_0 : w16.frozen? ⟨go9, (0 : Int).toNat * 3, none⟩ = false := hfr9 0; have hf9_1 : w16.frozen? ⟨go9, (0 : Int).toNat * 3 + 1, none⟩ = false := hfr9 1; have hf9_2 : w16.frozen? ⟨go9, (0 : Int).toNat * 3 + 2, none⟩ = false := hfr9 2; clear hcl9 hcc9 hfr9 hM9; (try rw [show ((0 : Int)).toNat = 0 from rfl] at hx9_0); (try simp only [Nat.reduceMul, Nat.zero_mul, Nat.zero_add, Nat.reduceAdd] at hx9_0); (try rw [show ((0 : Int)).toNat = 0 from rfl] at hf9_0); (try simp only [Nat.reduceMul, Nat.zero_mul, Nat.zero_add, Nat.reduceAdd] at hf9_0); (try rw [show ((0 : Int)).toNat = 0 from rfl] at hx9_1); (try simp only [Nat.reduceMul, Nat.zero_mul, Nat.zero_add, Nat.reduceAdd] at hx9_1); (try rw [show ((0 : Int)).toNat = 0 from rfl] at hf9_1); (try simp only [Nat.reduceMul, Nat.zero_mul, Nat.zero_add, Nat.reduceAdd] at hf9_1); (try rw [show ((0 : Int)).toNat = 0 from rfl] at hx9_2); (try simp only [Nat.reduceMul, Nat.zero_mul, Nat.zero_add, Nat.reduceAdd] at hx9_2); (try rw [show ((0 : Int)).toNat = 0 from rfl] at hf9_2); (try simp only [Nat.reduceMul, Nat.zero_mul, Nat.zero_add, Nat.reduceAdd] at hf9_2); replace p9 := eq_true p9; replace q9 := eq_true q9; have HX17 := Aside0.mk (show Kd.R k80 80 w16 w.heap.size (fun _ => True) (.slice (some ⟨go9, 0, none⟩) t844.length co11) t844 from zf86_2); obtain ⟨ce17, hcl17, hM17, hcc17, hfr17⟩ := Kd.R_elem HX17.out z80 (0 : Int) (by omega) zf86_8; obtain rfl := k80_openM hM17; have HP17 := Kd.R_seg HX17.out (0 : Int) (by omega) zf86_8 (seg := [.int .i64 t855]) (j := 1) hcl17 hcc17 (show 2 ≤ 3 from by decide) (x' := (⟨(rd_T80 t844 0).f0, t855, (rd_T80 t844 0).f2⟩ : S80)) (k80_mkM _ _ _ (⟨(rd_T80 t844 0).f0, t855, (rd_T80 t844 0).f2⟩ : S80) ) (fun _ hk => hk); have hx17_1 := hcc17 1 _ rfl; (try simp only [show (k80).sz = 3 from rfl, Nat.mul_one, Nat.add_zero] at hx17_1); (try rw [show ((0 : Int)).toNat = 0 from rfl] at hx17_1); (try simp only [Nat.reduceMul, Nat.zero_mul, Nat.zero_add, Nat.reduceAdd] at hx17_1); have hf17_1 := hfr17 1; (try simp only [show (k80).sz = 3 from rfl, Nat.mul_one, Nat.add_zero] at hf17_1); (try rw [show ((0 : Int)).toNat = 0 from rfl] at hf17_1); (try simp only [Nat.reduceMul, Nat.zero_mul, Nat.zero_add, Nat.reduceAdd] at hf17_1); clear hcl17 hcc17 hfr17 hM17) | ((with_reducible refine gate_store (t := 3) (p := 23) rfl ?_); refine store_event (t := 3) (p := 23) (v := ?vo_w18) (w1 := (w16.setCell ⟨go9, 1, none⟩ (.int .i64 t855))) ?hg ?ho ?hn ?hr ?_; (case ho => rfl); (case hg => rfl); (case hn => rfl); (case hr => first | (go_simp; done) | (go_simp; rfl)); intro w18 hw; have hg : w16.grownBy w18 (some go9) := (by rw [hw]; exact HP17.2); have hp_ : Kd.R k80 80 w18 w.heap.size (fun _ => True) (.slice (some ⟨go9, 0, none⟩) t844.length co11) y858 := (by rw [hw, Ny858.out]; exact HP17.1); clear HP17; have n0_ := Aside0.mk (IsS109.grown zf86_3 hg (IsS109.own_ne HI0.out HO846.out (by decide))); have n1_ := Aside0.mk (hp_); have n2_ := Aside0.mk (Kd.R_over' (v := (.slice (some ⟨go9, 0, none⟩) t844.length co11)) (by (with_reducible repeat (first | apply Kd.R_alloc | apply Kd.R_drewN | apply Kd.R_drew)); exact HO854.out) (Kd.R_typed HO846.out) (by decide) hg); have n3_ := Aside0.mk ((by rw [hw]; exact below_set (HB.out) (Nat.le_trans HL.out GB9.out) : Below w0.heap.size w0 w18)); have n4_ := Aside0.mk (KeepBut.trans zf86_0 (KeepBut.of_grown hg g) (Kd.R_base2 HO846.out)); clear HI0; clear HO846; clear HO854; clear HB; clear HK; have HI0 := n0_; have HO846 := n1_; have HO854 := n2_; have HB := n3_; have HK := n4_; clear n0_ n1_ n2_ n3_ n4_; clear hg hw hp_))
        go_ret
        exact ⟨_, by first | rfl | (simp [errW_none, errW_some] <;> rfl) | (simp [*, errW_none, errW_some] <;> rfl), by (with_reducible repeat (first | apply Kd.R_alloc | apply Kd.R_drewN | apply Kd.R_drew)); exact HO846.out, by repeat (first | (with_reducible first | exact HI0.out | apply IsS109.alloc | apply IsS109.drewN | apply IsS109.drew | apply IsS109.set_1 | apply IsS109.set_2) | exact HI0.out), by repeat (first | (with_reducible first | exact HB.out | apply below_alloc | apply pw_below_drewN | apply below_drew1 | refine below_set ?_ (IsS109.ge HI0.out)) | exact HB.out), by repeat (first | (with_reducible first | exact HK.out | apply KeepBut.set_ | apply keep_drewN | apply keep_drew | apply keep_alloc) | exact HK.out)⟩
      · rw [if_neg c8] at H
        exact absurd H (by simp)
    · rw [if_neg c6] at H
      have c6b0 : decide (0 < (t844.length : Int)) = false := decide_eq_false c6
      have c6b1 : decide (0 < t844.length) = false := decide_eq_false (by omega)
      clear c6
      simp only [Option.some.injEq, Prod.mk.injEq] at H
      obtain ⟨rfl, rfl, rfl⟩ := H
      go_enter Try.func86, Try.ntmps86
      go_wp2_with (first | ((with_reducible refine gate_callee (f := 97) rfl ?_); refine goesL_ (some 9) rfl rfl Try.func97 (by kernel_rfl) rfl #[.pointer (some ⟨g, 0, none⟩), .int .i64 a1] rfl zf86_1 ?_; (with_reducible refine (spec_l07Pieces.calls k g s0_0 s0_1 s0_2 a1 t844 t847 t848 w0 _ ?side1 ?side2 A3.out).mono ?_); (case side1 => repeat (first | (with_reducible first | exact HI0.out | apply IsS109.alloc | apply IsS109.drewN | apply IsS109.drew | apply IsS109.set_1 | apply IsS109.set_2) | exact HI0.out)); (case side2 => repeat (first | (with_reducible first | exact HB.out | apply below_alloc | apply pw_below_drewN | apply below_drew1 | refine below_set ?_ (IsS109.ge HI0.out)) | exact HB.out)); rintro e w19 ⟨v845, rfl, ho0, hi, hb, hk⟩; refine ⟨_, rfl, ?_⟩; have n0_ := Aside0.mk (Kd.R_lower ho0 (keep_size (w := w) (g := g) (row := none) zf86_0)); have n1_ := Aside0.mk (KeepBut.trans zf86_0 hk (.inl rfl)); have n2_ := Aside0.mk (hb); have n3_ := Aside0.mk (hi); clear HK; clear HB; clear HI0; have HO846 := n0_; have HK := n1_; have HB := n2_; have HI0 := n3_; clear n0_ n1_ n2_ n3_; (try clear hb); (try clear hb2); (try clear hk); (try clear hi); (try clear ho0); obtain ⟨Ao20, co20, eo20⟩ := Kd.R_slice HO846.out; subst eo20) | ((with_reducible refine gate_callee (f := 87) rfl ?_); refine goesL_ (some 13) rfl rfl Try.func87 (by kernel_rfl) rfl #[.pointer (some ⟨g, 0, none⟩), .int .i64 18] rfl zf86_1 ?_; (with_reducible refine (spec_l01Below.calls g s0_0 t847 t848 18 t849 t850 t851 w0 _ ?side1 ?side2 A4.out).mono ?_); (case side1 => repeat (first | (with_reducible first | exact HI0.out | apply IsS109.alloc | apply IsS109.drewN | apply IsS109.drew | apply IsS109.set_1 | apply IsS109.set_2) | exact HI0.out)); (case side2 => repeat (first | (with_reducible first | exact HB.out | apply below_alloc | apply pw_below_drewN | apply below_drew1 | refine below_set ?_ (IsS109.ge HI0.out)) | exact HB.out)); rintro e w21 ⟨rfl, hi, hb, hk⟩; refine ⟨_, rfl, ?_⟩; have n0_ := Aside0.mk (Kd.R_mono (Kd.R_keep (IsS109.apart (show IsS109 w0 _ g s0_0 t847 t848 from by repeat (first | (with_reducible first | exact HI0.out | apply IsS109.alloc | apply IsS109.drewN | apply IsS109.drew | apply IsS109.set_1 | apply IsS109.set_2) | exact HI0.out)) zf86_2 (by decide)) hk (fun _ h => h.2)) (fun _ h => h.1)); have n1_ := Aside0.mk (KeepBut.trans zf86_0 hk (.inl rfl)); have n2_ := Aside0.mk (hb); have n3_ := Aside0.mk (hi); clear HO846; clear HK; clear HB; clear HI0; have HO846 := n0_; have HK := n1_; have HB := n2_; have HI0 := n3_; clear n0_ n1_ n2_ n3_; (try clear hb); (try clear hb2); (try clear hk); (try clear hi)))
      go_ret
      exact ⟨_, by first | rfl | (simp [errW_none, errW_some] <;> rfl) | (simp [*, errW_none, errW_some] <;> rfl), by (with_reducible repeat (first | apply Kd.R_alloc | apply Kd.R_drewN | apply Kd.R_drew)); exact HO846.out, by repeat (first | (with_reducible first | exact HI0.out | apply IsS109.alloc | apply IsS109.drewN | apply IsS109.drew | apply IsS109.set_1 | apply IsS109.set_2) | exact HI0.out), by repeat (first | (with_reducible first | exact HB.out | apply below_alloc | apply pw_below_drewN | apply below_drew1 | refine below_set ?_ (IsS109.ge HI0.out)) | exact HB.out), by repeat (first | (with_reducible first | exact HK.out | apply KeepBut.set_ | apply keep_drewN | apply keep_drew | apply keep_alloc) | exact HK.out)⟩
  · rw [if_neg c5] at H
    have c5b0 : (t849 == 0) = false := beq_eq_false_iff_ne.mpr c5
    have c5b1 : (t849 != 0) = true := bne_iff_ne.mpr c5
    by_cases c22 : t849 = 1
    · rw [if_pos c22] at H
      have c22b0 : (t849 == 1) = true := beq_iff_eq.mpr c22
      have c22b1 : (t849 != 1) = false := bne_eq_false_iff_eq.mpr c22
      clear c22
      by_cases c23 : (t844.length : Int) > 0
      · rw [if_pos c23] at H
        have c23b0 : decide (0 < (t844.length : Int)) = true := decide_eq_true c23
        have c23b1 : decide (0 < t844.length) = true := decide_eq_true (by omega)
        clear c23
        obtain ⟨y859, hy859⟩ : ∃ y_ : List Int, y_ = (([(-1), 5, 6] : List Int)) := ⟨_, rfl⟩
        replace H : ((spec_l01PickInt.f s0_0 t850 t851 y859).bind fun bt862 => (if 0 ≤ (wrap64 ((t844.length : Int) - 1)) then (if (wrap64 ((t844.length : Int) - 1)) < (t844.length : Int) then (some ((t844.set ((wrap64 ((t844.length : Int) - 1)) : Int).toNat (⟨(rd_T80 t844 (wrap64 ((t844.length : Int) - 1))).f0, (rd_T80 t844 (wrap64 ((t844.length : Int) - 1))).f1, bt862.1⟩ : S80)), bt862.2.1, bt862.2.2)) else (none)) else (none))) = some (r1, r2, r3) := by first | (rw [hy859]; with_reducible exact H) | (have H2_ := (Option.bind_some _ _).symm.trans H; rw [hy859]; with_reducible exact H2_) | (have H2_ := (Option.bind_some _ _).symm.trans H; with_reducible exact H2_) | with_reducible exact H | (rw [hy859]; exact H) | exact H
        have Ny859 := Aside0.mk hy859
        clear hy859
        replace H := Option.bind_eq_some_iff.mp H
        obtain ⟨⟨t862, t863, t864⟩, A240, H⟩ := H
        replace H : (if 0 ≤ (wrap64 ((t844.length : Int) - 1)) then (if (wrap64 ((t844.length : Int) - 1)) < (t844.length : Int) then (some ((t844.set ((wrap64 ((t844.length : Int) - 1)) : Int).toNat (⟨(rd_T80 t844 (wrap64 ((t844.length : Int) - 1))).f0, (rd_T80 t844 (wrap64 ((t844.length : Int) - 1))).f1, t862⟩ : S80)), t863, t864)) else (none)) else (none)) = some (r1, r2, r3) := H
        have A24 := Aside0.mk A240
        clear A240
        obtain ⟨ji25, hji25⟩ : ∃ j_ : Int, (wrap64 ((t844.length : Int) - 1)) = j_ := ⟨_, rfl⟩
        replace H : (if 0 ≤ (ji25) then (if (ji25) < (t844.length : Int) then (some ((t844.set ((ji25) : Int).toNat (⟨(rd_T80 t844 (ji25)).f0, (rd_T80 t844 (ji25)).f1, t862⟩ : S80)), t863, t864)) else (none)) else (none)) = some (r1, r2, r3) := by first | (rw [hji25] at H; exact H) | (simp only [hji25] at H ⊢; exact H)
        (try rw [hji25] at A3)
        (try rw [hji25] at A4)
        (try rw [hji25] at A24)
        have hji25w : (IntKind.i64.wrap ((t844.length : Int) - 1)) = ji25 := (i64_w _).trans hji25
        by_cases c26 : 0 ≤ (ji25)
        · rw [if_pos c26] at H
          have c26b0 : decide (0 ≤ (ji25)) = true := decide_eq_true c26
          clear c26
          by_cases c27 : (ji25) < (t844.length : Int)
          · rw [if_pos c27] at H
            have c27b0 : decide ((ji25) < (t844.length : Int)) = true := decide_eq_true c27
            clear c27
            obtain ⟨y865, hy865⟩ : ∃ y_ : List (S80), y_ = (t844.set ((ji25) : Int).toNat (⟨(rd_T80 t844 (ji25)).f0, (rd_T80 t844 (ji25)).f1, t862⟩ : S80)) := ⟨_, rfl⟩
            replace H : (some (y865, t863, t864)) = some (r1, r2, r3) := by first | (rw [hy865]; with_reducible exact H) | (have H2_ := (Option.bind_some _ _).symm.trans H; rw [hy865]; with_reducible exact H2_) | (have H2_ := (Option.bind_some _ _).symm.trans H; with_reducible exact H2_) | with_reducible exact H | (rw [hy865]; exact H) | exact H
            have Ny865 := Aside0.mk hy865
            clear hy865
            simp only [Option.some.injEq, Prod.mk.injEq] at H
            obtain ⟨rfl, rfl, rfl⟩ := H
            go_enter Try.func86, Try.ntmps86
            go_wp2_with (first | ((with_reducible refine gate_callee (f := 97) rfl ?_); refine goesL_ (some 9) rfl rfl Try.func97 (by kernel_rfl) rfl #[.pointer (some ⟨g, 0, none⟩), .int .i64 a1] rfl zf86_1 ?_; (with_reducible refine (spec_l07Pieces.calls k g s0_0 s0_1 s0_2 a1 t844 t847 t848 w0 _ ?side1 ?side2 A3.out).mono ?_); (case side1 => repeat (first | (with_reducible first | exact HI0.out | apply IsS109.alloc | apply IsS109.drewN | apply IsS109.drew | apply IsS109.set_1 | apply IsS109.set_2) | exact HI0.out)); (case side2 => repeat (first | (with_reducible first | exact HB.out | apply below_alloc | apply pw_below_drewN | apply below_drew1 | refine below_set ?_ (IsS109.ge HI0.out)) | exact HB.out)); rintro e w29 ⟨v845, rfl, ho0, hi, hb, hk⟩; refine ⟨_, rfl, ?_⟩; have n0_ := Aside0.mk (Kd.R_lower ho0 (keep_size (w := w) (g := g) (row := none) zf86_0)); have n1_ := Aside0.mk (KeepBut.trans zf86_0 hk (.inl rfl)); have n2_ := Aside0.mk (hb); have n3_ := Aside0.mk (hi); clear HK; clear HB; clear HI0; have HO846 := n0_; have HK := n1_; have HB := n2_; have HI0 := n3_; clear n0_ n1_ n2_ n3_; (try clear hb); (try clear hb2); (try clear hk); (try clear hi); (try clear ho0); obtain ⟨Ao30, co30, eo30⟩ := Kd.R_slice HO846.out; subst eo30) | ((with_reducible refine gate_callee (f := 87) rfl ?_); refine goesL_ (some 13) rfl rfl Try.func87 (by kernel_rfl) rfl #[.pointer (some ⟨g, 0, none⟩), .int .i64 18] rfl zf86_1 ?_; (with_reducible refine (spec_l01Below.calls g s0_0 t847 t848 18 t849 t850 t851 w0 _ ?side1 ?side2 A4.out).mono ?_); (case side1 => repeat (first | (with_reducible first | exact HI0.out | apply IsS109.alloc | apply IsS109.drewN | apply IsS109.drew | apply IsS109.set_1 | apply IsS109.set_2) | exact HI0.out)); (case side2 => repeat (first | (with_reducible first | exact HB.out | apply below_alloc | apply pw_below_drewN | apply below_drew1 | refine below_set ?_ (IsS109.ge HI0.out)) | exact HB.out)); rintro e w31 ⟨rfl, hi, hb, hk⟩; refine ⟨_, rfl, ?_⟩; have n0_ := Aside0.mk (Kd.R_mono (Kd.R_keep (IsS109.apart (show IsS109 w0 _ g s0_0 t847 t848 from by repeat (first | (with_reducible first | exact HI0.out | apply IsS109.alloc | apply IsS109.drewN | apply IsS109.drew | apply IsS109.set_1 | apply IsS109.set_2) | exact HI0.out)) zf86_2 (by decide)) hk (fun _ h => h.2)) (fun _ h => h.1)); have n1_ := Aside0.mk (KeepBut.trans zf86_0 hk (.inl rfl)); have n2_ := Aside0.mk (hb); have n3_ := Aside0.mk (hi); clear HO846; clear HK; clear HB; clear HI0; have HO846 := n0_; have HK := n1_; have HB := n2_; have HI0 := n3_; clear n0_ n1_ n2_ n3_; (try clear hb); (try clear hb2); (try clear hk); (try clear hi)) | ((with_reducible refine gate_dst (N := 32) rfl ?_); refine Kd.R_lit (Kd.int .i64) _ 3 ?hg (N := 32) ?hd (xs := ([(-1), 5, 6] : List Int)) (inner := [.int .i64 (-1), .int .i64 5, .int .i64 6]) (ok := fun _ => True) (okp := fun _ => True) ?hr ?hp (fun _ hk => hk) trivial (Below.refl _ _) (Nat.le_refl _) (by simp) ?_; (case hd => rfl); (case hg => rfl); (case hr => first | (go_simp; done) | (go_simp; rfl)); (case hp => exact (Reps.one (show Kd.M (Kd.int .i64) _ _ _ (-1) [.int .i64 (-1)] from rfl) (Reps.one (show Kd.M (Kd.int .i64) _ _ _ 5 [.int .i64 5] from rfl) (Reps.one (show Kd.M (Kd.int .i64) _ _ _ 6 [.int .i64 6] from rfl) (Reps.none _ _))))); intro v860 w32 ho33 hb hg_ hnew_; clear hg_ hnew_; (first | rw [← Ny859.out] at ho33 | (simp only [Int.reduceToNat] at ho33; rw [← Ny859.out] at ho33)); have n0_ := Aside0.mk (Kd.R_below zf86_2 hb); have n1_ := Aside0.mk (Kd.R_lower ho33 (keep_size (w := w) (g := g) (row := none) zf86_0)); have n2_ := Aside0.mk (IsS109.below zf86_3 hb); have n3_ := Aside0.mk (KeepBut.trans zf86_0 (KeepBut.of_below hb g none) (.inl rfl)); have n4_ := Aside0.mk (below_step zf86_5 hb); clear HO846; clear HI0; clear HK; clear HB; have HO846 := n0_; have HO861 := n1_; have HI0 := n2_; have HK := n3_; have HB := n4_; clear n0_ n1_ n2_ n3_ n4_; clear hb ho33; obtain ⟨Ao34, co34, eo34⟩ := Kd.R_slice HO861.out; subst eo34) | ((with_reducible refine gate_callee (f := 88) rfl ?_); refine goesL_ (some 33) rfl rfl Try.func88 (by kernel_rfl) rfl #[.pointer (some ⟨g, 0, none⟩), .slice Ao34 y859.length co34] rfl zf86_1 ?_; (with_reducible refine (spec_l01PickInt.calls g s0_0 t850 t851 _ _ y859 t862 t863 t864 w0 _ ?side1 ?side2 ?side3 ?side4 ?side5 A24.out).mono ?_); (case side1 => repeat (first | (with_reducible first | exact HI0.out | apply IsS109.alloc | apply IsS109.drewN | apply IsS109.drew | apply IsS109.set_1 | apply IsS109.set_2) | exact HI0.out)); (case side2 => repeat (first | (with_reducible first | exact HB.out | apply below_alloc | apply pw_below_drewN | apply below_drew1 | refine below_set ?_ (IsS109.ge HI0.out)) | exact HB.out)); (case side3 => repeat (first | exact (Kd.R_reads' HO861.out).2.2 | (with_reducible refine Kd.C_alloc ?_ _) | (with_reducible refine Kd.C_drewN ?_ _) | (with_reducible refine Kd.C_drew ?_))); (case side4 => exact (Kd.R_reads' HO861.out).2.1); (case side5 => exact far_slice (IsS109.own_ne HI0.out HO861.out (by decide))); rintro e w35 ⟨rfl, hi, hb, hk⟩; refine ⟨_, rfl, ?_⟩; have n0_ := Aside0.mk (Kd.R_mono (Kd.R_keep (IsS109.apart (show IsS109 w0 _ g s0_0 t850 t851 from by repeat (first | (with_reducible first | exact HI0.out | apply IsS109.alloc | apply IsS109.drewN | apply IsS109.drew | apply IsS109.set_1 | apply IsS109.set_2) | exact HI0.out)) zf86_2 (by decide)) hk (fun _ h => h.2)) (fun _ h => h.1)); have n1_ := Aside0.mk (Kd.R_mono (Kd.R_keep (IsS109.apart (show IsS109 w0 _ g s0_0 t850 t851 from by repeat (first | (with_reducible first | exact HI0.out | apply IsS109.alloc | apply IsS109.drewN | apply IsS109.drew | apply IsS109.set_1 | apply IsS109.set_2) | exact HI0.out)) (by (with_reducible repeat (first | apply Kd.R_alloc | apply Kd.R_drewN | apply Kd.R_drew)); exact HO861.out) (by decide)) hk (fun _ h => h.2)) (fun _ h => h.1)); have n2_ := Aside0.mk (KeepBut.trans zf86_0 hk (.inl rfl)); have n3_ := Aside0.mk (hb); have n4_ := Aside0.mk (hi); clear HO846; clear HO861; clear HK; clear HB; clear HI0; have HO846 := n0_; have HO861 := n1_; have HK := n2_; have HB := n3_; have HI0 := n4_; clear n0_ n1_ n2_ n3_ n4_; (try clear hb); (try clear hb2); (try clear hk); (try clear hi); have p28 : 0 ≤ ((ji25) : Int) := of_decide_eq_true zf86_4; have q28 : ((ji25) : Int) < ((t844.length : Int) : Int) := of_decide_eq_true zf86_4; obtain ⟨go28, co28, eo28, gb28, gl28, cl28, HG28⟩ := Kd.R_form HO846.out (by omega); (first | cases eo28 | (injection eo28 with ea_ en_ ec_; (first | subst ea_ | (injection ea_ with ea_; subst ea_)); subst ec_; clear en_)); have GB28 := Aside0.mk gb28; have GG28 := Aside0.mk HG28; clear gb28 gl28 HG28; obtain ⟨ce28, hcl28, hM28, hcc28, hfr28⟩ := Kd.R_elem HO846.out z80 ((ji25) : Int) p28 q28; obtain rfl := k80_openM hM28; have hx28_0 : w35.cell? ⟨go28, ((ji25) : Int).toNat * 3, none⟩ = some (.int .i64 ((rd_T80 t844 (ji25)).f0)) := hcc28 0 _ rfl; have hx28_1 : w35.cell? ⟨go28, ((ji25) : Int).toNat * 3 + 1, none⟩ = some (.int .i64 ((rd_T80 t844 (ji25)).f1)) := hcc28 1 _ rfl; have hx28_2 : w35.cell? ⟨go28, ((ji25) : Int).toNat * 3 + 2, none⟩ = some (.int .i64 ((rd_T80 t844 (ji25)).f2)) := hcc28 2 _ rfl; have hf28_0 : w35.frozen? ⟨go28, ((ji25) : Int).toNat * 3, none⟩ = false := hfr28 0; have hf28_1 : w35.frozen? ⟨go28, ((ji25) : Int).toNat * 3 + 1, none⟩ = false := hfr28 1; have hf28_2 : w35.frozen? ⟨go28, ((ji25) : Int).toNat * 3 + 2, none⟩ = false := hfr28 2; clear hcl28 hcc28 hfr28 hM28; replace p28 := eq_true p28; replace q28 := eq_true q28; have HX36 := Aside0.mk (show Kd.R k80 80 w35 w.heap.size (fun _ => True) (.slice (some ⟨go28, 0, none⟩) t844.length co30) t844 from zf86_2); obtain ⟨ce36, hcl36, hM36, hcc36, hfr36⟩ := Kd.R_elem HX36.out z80 ((ji25) : Int) (of_decide_eq_true zf86_4) zf86_7; obtain rfl := k80_openM hM36; have HP36 := Kd.R_seg HX36.out ((ji25) : Int) (of_decide_eq_true zf86_4) zf86_7 (seg := [.int .i64 t862]) (j := 2) hcl36 hcc36 (show 3 ≤ 3 from by decide) (x' := (⟨(rd_T80 t844 (ji25)).f0, (rd_T80 t844 (ji25)).f1, t862⟩ : S80)) (k80_mkM _ _ _ (⟨(rd_T80 t844 (ji25)).f0, (rd_T80 t844 (ji25)).f1, t862⟩ : S80) ) (fun _ hk => hk); have hx36_2 := hcc36 2 _ rfl; (try simp only [show (k80).sz = 3 from rfl, Nat.mul_one, Nat.add_zero] at hx36_2); have hf36_2 := hfr36 2; (try simp only [show (k80).sz = 3 from rfl, Nat.mul_one, Nat.add_zero] at hf36_2); clear hcl36 hcc36 hfr36 hM36) | ((with_reducible refine gate_store (t := 3) (p := 35) rfl ?_); refine store_event (t := 3) (p := 35) (v := ?vo_w37) (w1 := (w35.setCell ⟨go28, ((ji25) : Int).toNat * 3 + 2, none⟩ (.int .i64 t862))) ?hg ?ho ?hn ?hr ?_; (case ho => rfl); (case hg => rfl); (case hn => rfl); (case hr => first | (go_simp; done) | (go_simp; rfl)); intro w37 hw; have hg : w35.grownBy w37 (some go28) := (by rw [hw]; exact HP36.2); have hp_ : Kd.R k80 80 w37 w.heap.size (fun _ => True) (.slice (some ⟨go28, 0, none⟩) t844.length co30) y865 := (by rw [hw, Ny865.out]; exact HP36.1); clear HP36; have n0_ := Aside0.mk (IsS109.grown zf86_3 hg (IsS109.own_ne HI0.out HO846.out (by decide))); have n1_ := Aside0.mk (hp_); have n2_ := Aside0.mk (Kd.R_over' (v := (.slice (some ⟨go28, 0, none⟩) t844.length co30)) (by (with_reducible repeat (first | apply Kd.R_alloc | apply Kd.R_drewN | apply Kd.R_drew)); exact HO861.out) (Kd.R_typed HO846.out) (by decide) hg); have n3_ := Aside0.mk ((by rw [hw]; exact below_set (HB.out) (Nat.le_trans HL.out GB28.out) : Below w0.heap.size w0 w37)); have n4_ := Aside0.mk (KeepBut.trans zf86_0 (KeepBut.of_grown hg g) (Kd.R_base2 HO846.out)); clear HI0; clear HO846; clear HO861; clear HB; clear HK; have HI0 := n0_; have HO846 := n1_; have HO861 := n2_; have HB := n3_; have HK := n4_; clear n0_ n1_ n2_ n3_ n4_; clear hg hw hp_))
            go_ret
            exact ⟨_, by first | rfl | (simp [errW_none, errW_some] <;> rfl) | (simp only [← hji25]; first | rfl | (simp [errW_none, errW_some] <;> rfl)) | (simp [*, errW_none, errW_some] <;> rfl), by (with_reducible repeat (first | apply Kd.R_alloc | apply Kd.R_drewN | apply Kd.R_drew)); exact HO846.out, by repeat (first | (with_reducible first | exact HI0.out | apply IsS109.alloc | apply IsS109.drewN | apply IsS109.drew | apply IsS109.set_1 | apply IsS109.set_2) | exact HI0.out), by repeat (first | (with_reducible first | exact HB.out | apply below_alloc | apply pw_below_drewN | apply below_drew1 | refine below_set ?_ (IsS109.ge HI0.out)) | exact HB.out), by repeat (first | (with_reducible first | exact HK.out | apply KeepBut.set_ | apply keep_drewN | apply keep_drew | apply keep_alloc) | exact HK.out)⟩
          · rw [if_neg c27] at H
            exact absurd H (by simp)
        · rw [if_neg c26] at H
          exact absurd H (by simp)
      · rw [if_neg c23] at H
        have c23b0 : decide (0 < (t844.length : Int)) = false := decide_eq_false c23
        have c23b1 : decide (0 < t844.length) = false := decide_eq_false (by omega)
        clear c23
        simp only [Option.some.injEq, Prod.mk.injEq] at H
        obtain ⟨rfl, rfl, rfl⟩ := H
        go_enter Try.func86, Try.ntmps86
        go_wp2_with (first | ((with_reducible refine gate_callee (f := 97) rfl ?_); refine goesL_ (some 9) rfl rfl Try.func97 (by kernel_rfl) rfl #[.pointer (some ⟨g, 0, none⟩), .int .i64 a1] rfl zf86_1 ?_; (with_reducible refine (spec_l07Pieces.calls k g s0_0 s0_1 s0_2 a1 t844 t847 t848 w0 _ ?side1 ?side2 A3.out).mono ?_); (case side1 => repeat (first | (with_reducible first | exact HI0.out | apply IsS109.alloc | apply IsS109.drewN | apply IsS109.drew | apply IsS109.set_1 | apply IsS109.set_2) | exact HI0.out)); (case side2 => repeat (first | (with_reducible first | exact HB.out | apply below_alloc | apply pw_below_drewN | apply below_drew1 | refine below_set ?_ (IsS109.ge HI0.out)) | exact HB.out)); rintro e w38 ⟨v845, rfl, ho0, hi, hb, hk⟩; refine ⟨_, rfl, ?_⟩; have n0_ := Aside0.mk (Kd.R_lower ho0 (keep_size (w := w) (g := g) (row := none) zf86_0)); have n1_ := Aside0.mk (KeepBut.trans zf86_0 hk (.inl rfl)); have n2_ := Aside0.mk (hb); have n3_ := Aside0.mk (hi); clear HK; clear HB; clear HI0; have HO846 := n0_; have HK := n1_; have HB := n2_; have HI0 := n3_; clear n0_ n1_ n2_ n3_; (try clear hb); (try clear hb2); (try clear hk); (try clear hi); (try clear ho0); obtain ⟨Ao39, co39, eo39⟩ := Kd.R_slice HO846.out; subst eo39) | ((with_reducible refine gate_callee (f := 87) rfl ?_); refine goesL_ (some 13) rfl rfl Try.func87 (by kernel_rfl) rfl #[.pointer (some ⟨g, 0, none⟩), .int .i64 18] rfl zf86_1 ?_; (with_reducible refine (spec_l01Below.calls g s0_0 t847 t848 18 t849 t850 t851 w0 _ ?side1 ?side2 A4.out).mono ?_); (case side1 => repeat (first | (with_reducible first | exact HI0.out | apply IsS109.alloc | apply IsS109.drewN | apply IsS109.drew | apply IsS109.set_1 | apply IsS109.set_2) | exact HI0.out)); (case side2 => repeat (first | (with_reducible first | exact HB.out | apply below_alloc | apply pw_below_drewN | apply below_drew1 | refine below_set ?_ (IsS109.ge HI0.out)) | exact HB.out)); rintro e w40 ⟨rfl, hi, hb, hk⟩; refine ⟨_, rfl, ?_⟩; have n0_ := Aside0.mk (Kd.R_mono (Kd.R_keep (IsS109.apart (show IsS109 w0 _ g s0_0 t847 t848 from by repeat (first | (with_reducible first | exact HI0.out | apply IsS109.alloc | apply IsS109.drewN | apply IsS109.drew | apply IsS109.set_1 | apply IsS109.set_2) | exact HI0.out)) zf86_2 (by decide)) hk (fun _ h => h.2)) (fun _ h => h.1)); have n1_ := Aside0.mk (KeepBut.trans zf86_0 hk (.inl rfl)); have n2_ := Aside0.mk (hb); have n3_ := Aside0.mk (hi); clear HO846; clear HK; clear HB; clear HI0; have HO846 := n0_; have HK := n1_; have HB := n2_; have HI0 := n3_; clear n0_ n1_ n2_ n3_; (try clear hb); (try clear hb2); (try clear hk); (try clear hi)))
        go_ret
        exact ⟨_, by first | rfl | (simp [errW_none, errW_some] <;> rfl) | (simp [*, errW_none, errW_some] <;> rfl), by (with_reducible repeat (first | apply Kd.R_alloc | apply Kd.R_drewN | apply Kd.R_drew)); exact HO846.out, by repeat (first | (with_reducible first | exact HI0.out | apply IsS109.alloc | apply IsS109.drewN | apply IsS109.drew | apply IsS109.set_1 | apply IsS109.set_2) | exact HI0.out), by repeat (first | (with_reducible first | exact HB.out | apply below_alloc | apply pw_below_drewN | apply below_drew1 | refine below_set ?_ (IsS109.ge HI0.out)) | exact HB.out), by repeat (first | (with_reducible first | exact HK.out | apply KeepBut.set_ | apply keep_drewN | apply keep_drew | apply keep_alloc) | exact HK.out)⟩
    · rw [if_neg c22] at H
      have c22b0 : (t849 == 1) = false := beq_eq_false_iff_ne.mpr c22
      have c22b1 : (t849 != 1) = true := bne_iff_ne.mpr c22
      by_cases c41 : t849 = 2
      · rw [if_pos c41] at H
        have c41b0 : (t849 == 2) = true := beq_iff_eq.mpr c41
        have c41b1 : (t849 != 2) = false := bne_eq_false_iff_eq.mpr c41
        clear c41
        by_cases c42 : (t844.length : Int) > 1
        · rw [if_pos c42] at H
          have c42b0 : decide (1 < (t844.length : Int)) = true := decide_eq_true c42
          have c42b1 : decide (1 < t844.length) = true := decide_eq_true (by omega)
          clear c42
          by_cases c43 : 0 < (t844.length : Int)
          · rw [if_pos c43] at H
            have c43b0 : decide (0 < (t844.length : Int)) = true := decide_eq_true c43
            have c43b1 : decide (0 < t844.length) = true := decide_eq_true (by omega)
            clear c43
            by_cases c44 : 1 < (t844.length : Int)
            · rw [if_pos c44] at H
              have c44b0 : decide (1 < (t844.length : Int)) = true := decide_eq_true c44
              have c44b1 : decide (1 < t844.length) = true := decide_eq_true (by omega)
              clear c44
              obtain ⟨y867, hy867⟩ : ∃ y_ : List (S80), y_ = (t844.set (1 : Int).toNat (⟨(rd_T80 t844 0).f0, (rd_T80 t844 1).f1, (rd_T80 t844 1).f2⟩ : S80)) := ⟨_, rfl⟩
              replace H : (some (y867, t850, t851)) = some (r1, r2, r3) := by first | (rw [hy867]; with_reducible exact H) | (have H2_ := (Option.bind_some _ _).symm.trans H; rw [hy867]; with_reducible exact H2_) | (have H2_ := (Option.bind_some _ _).symm.trans H; with_reducible exact H2_) | with_reducible exact H | (rw [hy867]; exact H) | exact H
              have Ny867 := Aside0.mk hy867
              clear hy867
              simp only [Option.some.injEq, Prod.mk.injEq] at H
              obtain ⟨rfl, rfl, rfl⟩ := H
              go_enter Try.func86, Try.ntmps86
              go_wp2_with (first | ((with_reducible refine gate_callee (f := 97) rfl ?_); refine goesL_ (some 9) rfl rfl Try.func97 (by kernel_rfl) rfl #[.pointer (some ⟨g, 0, none⟩), .int .i64 a1] rfl zf86_1 ?_; (with_reducible refine (spec_l07Pieces.calls k g s0_0 s0_1 s0_2 a1 t844 t847 t848 w0 _ ?side1 ?side2 A3.out).mono ?_); (case side1 => repeat (first | (with_reducible first | exact HI0.out | apply IsS109.alloc | apply IsS109.drewN | apply IsS109.drew | apply IsS109.set_1 | apply IsS109.set_2) | exact HI0.out)); (case side2 => repeat (first | (with_reducible first | exact HB.out | apply below_alloc | apply pw_below_drewN | apply below_drew1 | refine below_set ?_ (IsS109.ge HI0.out)) | exact HB.out)); rintro e w46 ⟨v845, rfl, ho0, hi, hb, hk⟩; refine ⟨_, rfl, ?_⟩; have n0_ := Aside0.mk (Kd.R_lower ho0 (keep_size (w := w) (g := g) (row := none) zf86_0)); have n1_ := Aside0.mk (KeepBut.trans zf86_0 hk (.inl rfl)); have n2_ := Aside0.mk (hb); have n3_ := Aside0.mk (hi); clear HK; clear HB; clear HI0; have HO846 := n0_; have HK := n1_; have HB := n2_; have HI0 := n3_; clear n0_ n1_ n2_ n3_; (try clear hb); (try clear hb2); (try clear hk); (try clear hi); (try clear ho0); obtain ⟨Ao47, co47, eo47⟩ := Kd.R_slice HO846.out; subst eo47) | ((with_reducible refine gate_callee (f := 87) rfl ?_); refine goesL_ (some 13) rfl rfl Try.func87 (by kernel_rfl) rfl #[.pointer (some ⟨g, 0, none⟩), .int .i64 18] rfl zf86_1 ?_; (with_reducible refine (spec_l01Below.calls g s0_0 t847 t848 18 t849 t850 t851 w0 _ ?side1 ?side2 A4.out).mono ?_); (case side1 => repeat (first | (with_reducible first | exact HI0.out | apply IsS109.alloc | apply IsS109.drewN | apply IsS109.drew | apply IsS109.set_1 | apply IsS109.set_2) | exact HI0.out)); (case side2 => repeat (first | (with_reducible first | exact HB.out | apply below_alloc | apply pw_below_drewN | apply below_drew1 | refine below_set ?_ (IsS109.ge HI0.out)) | exact HB.out)); rintro e w48 ⟨rfl, hi, hb, hk⟩; refine ⟨_, rfl, ?_⟩; have n0_ := Aside0.mk (Kd.R_mono (Kd.R_keep (IsS109.apart (show IsS109 w0 _ g s0_0 t847 t848 from by repeat (first | (with_reducible first | exact HI0.out | apply IsS109.alloc | apply IsS109.drewN | apply IsS109.drew | apply IsS109.set_1 | apply IsS109.set_2) | exact HI0.out)) zf86_2 (by decide)) hk (fun _ h => h.2)) (fun _ h => h.1)); have n1_ := Aside0.mk (KeepBut.trans zf86_0 hk (.inl rfl)); have n2_ := Aside0.mk (hb); have n3_ := Aside0.mk (hi); clear HO846; clear HK; clear HB; clear HI0; have HO846 := n0_; have HK := n1_; have HB := n2_; have HI0 := n3_; clear n0_ n1_ n2_ n3_; (try clear hb); (try clear hb2); (try clear hk); (try clear hi); have p866 : 0 ≤ (0 : Int) := (by omega); have q866 : 0 < (t844.length : Int) := of_decide_eq_true zf86_4; obtain ⟨ad866, e866, hx866_0, hx866_1, hx866_2⟩ := at_T80 (Kd.R_reads' HO846.out).2.2 0 p866 q866; cases e866; have qi866 : (0 < t844.length) = True := eq_true (by omega); (try rw [show ((0 : Int)).toNat = 0 from rfl] at hx866_0); (try rw [show 0 * 3 = 0 from rfl] at hx866_0); (try rw [Addr.add_zero'] at hx866_0); (try rw [show ((0 : Int)).toNat = 0 from rfl] at hx866_1); (try rw [show 0 * 3 = 0 from rfl] at hx866_1); (try rw [Addr.add_zero'] at hx866_1); (try rw [show ((0 : Int)).toNat = 0 from rfl] at hx866_2); (try rw [show 0 * 3 = 0 from rfl] at hx866_2); (try rw [Addr.add_zero'] at hx866_2); replace p866 := eq_true p866; replace q866 := eq_true q866; have p45 : 0 ≤ (1 : Int) := (by omega); have q45 : (1 : Int) < ((t844.length : Int) : Int) := of_decide_eq_true zf86_4; have qi45 : (1 < t844.length) = True := eq_true (by omega); obtain ⟨go45, co45, eo45, gb45, gl45, cl45, HG45⟩ := Kd.R_form HO846.out (by omega); (first | cases eo45 | (injection eo45 with ea_ en_ ec_; (first | subst ea_ | (injection ea_ with ea_; subst ea_)); subst ec_; clear en_)); have GB45 := Aside0.mk gb45; have GG45 := Aside0.mk HG45; clear gb45 gl45 HG45; (first | simp only [add_plain] at hx866_0 | skip); (first | simp only [add_plain] at hx866_1 | skip); (first | simp only [add_plain] at hx866_2 | skip); obtain ⟨ce45, hcl45, hM45, hcc45, hfr45⟩ := Kd.R_elem HO846.out z80 (1 : Int) p45 q45; obtain rfl := k80_openM hM45; have hx45_0 : w48.cell? ⟨go45, (1 : Int).toNat * 3, none⟩ = some (.int .i64 ((rd_T80 t844 1).f0)) := hcc45 0 _ rfl; have hx45_1 : w48.cell? ⟨go45, (1 : Int).toNat * 3 + 1, none⟩ = some (.int .i64 ((rd_T80 t844 1).f1)) := hcc45 1 _ rfl; have hx45_2 : w48.cell? ⟨go45, (1 : Int).toNat * 3 + 2, none⟩ = some (.int .i64 ((rd_T80 t844 1).f2)) := hcc45 2 _ rfl; have hf45_0 : w48.frozen? ⟨go45, (1 : Int).toNat * 3, none⟩ = false := hfr45 0; have hf45_1 : w48.frozen? ⟨go45, (1 : Int).toNat * 3 + 1, none⟩ = false := hfr45 1; have hf45_2 : w48.frozen? ⟨go45, (1 : Int).toNat * 3 + 2, none⟩ = false := hfr45 2; clear hcl45 hcc45 hfr45 hM45; (try rw [show ((1 : Int)).toNat = 1 from rfl] at hx45_0); (try simp only [Nat.reduceMul, Nat.zero_mul, Nat.zero_add, Nat.reduceAdd] at hx45_0); (try rw [show ((1 : Int)).toNat = 1 from rfl] at hf45_0); (try simp only [Nat.reduceMul, Nat.zero_mul, Nat.zero_add, Nat.reduceAdd] at hf45_0); (try rw [show ((1 : Int)).toNat = 1 from rfl] at hx45_1); (try simp only [Nat.reduceMul, Nat.zero_mul, Nat.zero_add, Nat.reduceAdd] at hx45_1); (try rw [show ((1 : Int)).toNat = 1 from rfl] at hf45_1); (try simp only [Nat.reduceMul, Nat.zero_mul, Nat.zero_add, Nat.reduceAdd] at hf45_1); (try rw [show ((1 : Int)).toNat = 1 from rfl] at hx45_2); (try simp only [Nat.reduceMul, Nat.zero_mul, Nat.zero_add, Nat.reduceAdd] at hx45_2); (try rw [show ((1 : Int)).toNat = 1 from rfl] at hf45_2); (try simp only [Nat.reduceMul, Nat.zero_mul, Nat.zero_add, Nat.reduceAdd] at hf45_2); replace p45 := eq_true p45; replace q45 := eq_true q45; have HX49 := Aside0.mk (show Kd.R k80 80 w48 w.heap.size (fun _ => True) (.slice (some ⟨go45, 0, none⟩) t844.length co47) t844 from zf86_2); obtain ⟨ce49, hcl49, hM49, hcc49, hfr49⟩ := Kd.R_elem HX49.out z80 (1 : Int) (by omega) zf86_9; obtain rfl := k80_openM hM49; have HP49 := Kd.R_seg HX49.out (1 : Int) (by omega) zf86_9 (seg := [.int .i64 ((rd_T80 t844 0).f0)]) (j := 0) hcl49 hcc49 (show 1 ≤ 3 from by decide) (x' := (⟨(rd_T80 t844 0).f0, (rd_T80 t844 1).f1, (rd_T80 t844 1).f2⟩ : S80)) (k80_mkM _ _ _ (⟨(rd_T80 t844 0).f0, (rd_T80 t844 1).f1, (rd_T80 t844 1).f2⟩ : S80) ) (fun _ hk => hk); have hx49_0 := hcc49 0 _ rfl; (try simp only [show (k80).sz = 3 from rfl, Nat.mul_one, Nat.add_zero] at hx49_0); (try rw [show ((1 : Int)).toNat = 1 from rfl] at hx49_0); (try simp only [Nat.reduceMul, Nat.zero_mul, Nat.zero_add, Nat.reduceAdd] at hx49_0); have hf49_0 := hfr49 0; (try simp only [show (k80).sz = 3 from rfl, Nat.mul_one, Nat.add_zero] at hf49_0); (try rw [show ((1 : Int)).toNat = 1 from rfl] at hf49_0); (try simp only [Nat.reduceMul, Nat.zero_mul, Nat.zero_add, Nat.reduceAdd] at hf49_0); clear hcl49 hcc49 hfr49 hM49) | ((with_reducible refine gate_store (t := 3) (p := 46) rfl ?_); refine store_event (t := 3) (p := 46) (v := ?vo_w50) (w1 := (w48.setCell ⟨go45, 3, none⟩ (.int .i64 ((rd_T80 t844 0).f0)))) ?hg ?ho ?hn ?hr ?_; (case ho => rfl); (case hg => rfl); (case hn => rfl); (case hr => first | (go_simp; done) | (go_simp; rfl)); intro w50 hw; have hg : w48.grownBy w50 (some go45) := (by rw [hw]; exact HP49.2); have hp_ : Kd.R k80 80 w50 w.heap.size (fun _ => True) (.slice (some ⟨go45, 0, none⟩) t844.length co47) y867 := (by rw [hw, Ny867.out]; exact HP49.1); clear HP49; have n0_ := Aside0.mk (IsS109.grown zf86_3 hg (IsS109.own_ne HI0.out HO846.out (by decide))); have n1_ := Aside0.mk (hp_); have n2_ := Aside0.mk ((by rw [hw]; exact below_set (HB.out) (Nat.le_trans HL.out GB45.out) : Below w0.heap.size w0 w50)); have n3_ := Aside0.mk (KeepBut.trans zf86_0 (KeepBut.of_grown hg g) (Kd.R_base2 HO846.out)); clear HI0; clear HO846; clear HB; clear HK; have HI0 := n0_; have HO846 := n1_; have HB := n2_; have HK := n3_; clear n0_ n1_ n2_ n3_; clear hg hw hp_))
              go_ret
              exact ⟨_, by first | rfl | (simp [errW_none, errW_some] <;> rfl) | (simp [*, errW_none, errW_some] <;> rfl), by (with_reducible repeat (first | apply Kd.R_alloc | apply Kd.R_drewN | apply Kd.R_drew)); exact HO846.out, by repeat (first | (with_reducible first | exact HI0.out | apply IsS109.alloc | apply IsS109.drewN | apply IsS109.drew | apply IsS109.set_1 | apply IsS109.set_2) | exact HI0.out), by repeat (first | (with_reducible first | exact HB.out | apply below_alloc | apply pw_below_drewN | apply below_drew1 | refine below_set ?_ (IsS109.ge HI0.out)) | exact HB.out), by repeat (first | (with_reducible first | exact HK.out | apply KeepBut.set_ | apply keep_drewN | apply keep_drew | apply keep_alloc) | exact HK.out)⟩
            · rw [if_neg c44] at H
              exact absurd H (by simp)
          · rw [if_neg c43] at H
            exact absurd H (by simp)
        · rw [if_neg c42] at H
          have c42b0 : decide (1 < (t844.length : Int)) = false := decide_eq_false c42
          have c42b1 : decide (1 < t844.length) = false := decide_eq_false (by omega)
          clear c42
          simp only [Option.some.injEq, Prod.mk.injEq] at H
          obtain ⟨rfl, rfl, rfl⟩ := H
          go_enter Try.func86, Try.ntmps86
          go_wp2_with (first | ((with_reducible refine gate_callee (f := 97) rfl ?_); refine goesL_ (some 9) rfl rfl Try.func97 (by kernel_rfl) rfl #[.pointer (some ⟨g, 0, none⟩), .int .i64 a1] rfl zf86_1 ?_; (with_reducible refine (spec_l07Pieces.calls k g s0_0 s0_1 s0_2 a1 t844 t847 t848 w0 _ ?side1 ?side2 A3.out).mono ?_); (case side1 => repeat (first | (with_reducible first | exact HI0.out | apply IsS109.alloc | apply IsS109.drewN | apply IsS109.drew | apply IsS109.set_1 | apply IsS109.set_2) | exact HI0.out)); (case side2 => repeat (first | (with_reducible first | exact HB.out | apply below_alloc | apply pw_below_drewN | apply below_drew1 | refine below_set ?_ (IsS109.ge HI0.out)) | exact HB.out)); rintro e w51 ⟨v845, rfl, ho0, hi, hb, hk⟩; refine ⟨_, rfl, ?_⟩; have n0_ := Aside0.mk (Kd.R_lower ho0 (keep_size (w := w) (g := g) (row := none) zf86_0)); have n1_ := Aside0.mk (KeepBut.trans zf86_0 hk (.inl rfl)); have n2_ := Aside0.mk (hb); have n3_ := Aside0.mk (hi); clear HK; clear HB; clear HI0; have HO846 := n0_; have HK := n1_; have HB := n2_; have HI0 := n3_; clear n0_ n1_ n2_ n3_; (try clear hb); (try clear hb2); (try clear hk); (try clear hi); (try clear ho0); obtain ⟨Ao52, co52, eo52⟩ := Kd.R_slice HO846.out; subst eo52) | ((with_reducible refine gate_callee (f := 87) rfl ?_); refine goesL_ (some 13) rfl rfl Try.func87 (by kernel_rfl) rfl #[.pointer (some ⟨g, 0, none⟩), .int .i64 18] rfl zf86_1 ?_; (with_reducible refine (spec_l01Below.calls g s0_0 t847 t848 18 t849 t850 t851 w0 _ ?side1 ?side2 A4.out).mono ?_); (case side1 => repeat (first | (with_reducible first | exact HI0.out | apply IsS109.alloc | apply IsS109.drewN | apply IsS109.drew | apply IsS109.set_1 | apply IsS109.set_2) | exact HI0.out)); (case side2 => repeat (first | (with_reducible first | exact HB.out | apply below_alloc | apply pw_below_drewN | apply below_drew1 | refine below_set ?_ (IsS109.ge HI0.out)) | exact HB.out)); rintro e w53 ⟨rfl, hi, hb, hk⟩; refine ⟨_, rfl, ?_⟩; have n0_ := Aside0.mk (Kd.R_mono (Kd.R_keep (IsS109.apart (show IsS109 w0 _ g s0_0 t847 t848 from by repeat (first | (with_reducible first | exact HI0.out | apply IsS109.alloc | apply IsS109.drewN | apply IsS109.drew | apply IsS109.set_1 | apply IsS109.set_2) | exact HI0.out)) zf86_2 (by decide)) hk (fun _ h => h.2)) (fun _ h => h.1)); have n1_ := Aside0.mk (KeepBut.trans zf86_0 hk (.inl rfl)); have n2_ := Aside0.mk (hb); have n3_ := Aside0.mk (hi); clear HO846; clear HK; clear HB; clear HI0; have HO846 := n0_; have HK := n1_; have HB := n2_; have HI0 := n3_; clear n0_ n1_ n2_ n3_; (try clear hb); (try clear hb2); (try clear hk); (try clear hi)))
          go_ret
          exact ⟨_, by first | rfl | (simp [errW_none, errW_some] <;> rfl) | (simp [*, errW_none, errW_some] <;> rfl), by (with_reducible repeat (first | apply Kd.R_alloc | apply Kd.R_drewN | apply Kd.R_drew)); exact HO846.out, by repeat (first | (with_reducible first | exact HI0.out | apply IsS109.alloc | apply IsS109.drewN | apply IsS109.drew | apply IsS109.set_1 | apply IsS109.set_2) | exact HI0.out), by repeat (first | (with_reducible first | exact HB.out | apply below_alloc | apply pw_below_drewN | apply below_drew1 | refine below_set ?_ (IsS109.ge HI0.out)) | exact HB.out), by repeat (first | (with_reducible first | exact HK.out | apply KeepBut.set_ | apply keep_drewN | apply keep_drew | apply keep_alloc) | exact HK.out)⟩
      · rw [if_neg c41] at H
        have c41b0 : (t849 == 2) = false := beq_eq_false_iff_ne.mpr c41
        have c41b1 : (t849 != 2) = true := bne_iff_ne.mpr c41
        by_cases c54 : t849 = 3
        · rw [if_pos c54] at H
          have c54b0 : (t849 == 3) = true := beq_iff_eq.mpr c54
          have c54b1 : (t849 != 3) = false := bne_eq_false_iff_eq.mpr c54
          clear c54
          have H' := Aside0.mk H
          clear H
          go_enter Try.func86, Try.ntmps86
          go_wp2_with (first | ((with_reducible refine gate_callee (f := 97) rfl ?_); refine goesL_ (some 9) rfl rfl Try.func97 (by kernel_rfl) rfl #[.pointer (some ⟨g, 0, none⟩), .int .i64 a1] rfl zf86_1 ?_; (with_reducible refine (spec_l07Pieces.calls k g s0_0 s0_1 s0_2 a1 t844 t847 t848 w0 _ ?side1 ?side2 A3.out).mono ?_); (case side1 => repeat (first | (with_reducible first | exact HI0.out | apply IsS109.alloc | apply IsS109.drewN | apply IsS109.drew | apply IsS109.set_1 | apply IsS109.set_2) | exact HI0.out)); (case side2 => repeat (first | (with_reducible first | exact HB.out | apply below_alloc | apply pw_below_drewN | apply below_drew1 | refine below_set ?_ (IsS109.ge HI0.out)) | exact HB.out)); rintro e w55 ⟨v845, rfl, ho0, hi, hb, hk⟩; refine ⟨_, rfl, ?_⟩; have n0_ := Aside0.mk (Kd.R_lower ho0 (keep_size (w := w) (g := g) (row := none) zf86_0)); have n1_ := Aside0.mk (KeepBut.trans zf86_0 hk (.inl rfl)); have n2_ := Aside0.mk (hb); have n3_ := Aside0.mk (hi); clear HK; clear HB; clear HI0; have HO846 := n0_; have HK := n1_; have HB := n2_; have HI0 := n3_; clear n0_ n1_ n2_ n3_; (try clear hb); (try clear hb2); (try clear hk); (try clear hi); (try clear ho0); obtain ⟨Ao56, co56, eo56⟩ := Kd.R_slice HO846.out; subst eo56) | ((with_reducible refine gate_callee (f := 87) rfl ?_); refine goesL_ (some 13) rfl rfl Try.func87 (by kernel_rfl) rfl #[.pointer (some ⟨g, 0, none⟩), .int .i64 18] rfl zf86_1 ?_; (with_reducible refine (spec_l01Below.calls g s0_0 t847 t848 18 t849 t850 t851 w0 _ ?side1 ?side2 A4.out).mono ?_); (case side1 => repeat (first | (with_reducible first | exact HI0.out | apply IsS109.alloc | apply IsS109.drewN | apply IsS109.drew | apply IsS109.set_1 | apply IsS109.set_2) | exact HI0.out)); (case side2 => repeat (first | (with_reducible first | exact HB.out | apply below_alloc | apply pw_below_drewN | apply below_drew1 | refine below_set ?_ (IsS109.ge HI0.out)) | exact HB.out)); rintro e w57 ⟨rfl, hi, hb, hk⟩; refine ⟨_, rfl, ?_⟩; have n0_ := Aside0.mk (Kd.R_mono (Kd.R_keep (IsS109.apart (show IsS109 w0 _ g s0_0 t847 t848 from by repeat (first | (with_reducible first | exact HI0.out | apply IsS109.alloc | apply IsS109.drewN | apply IsS109.drew | apply IsS109.set_1 | apply IsS109.set_2) | exact HI0.out)) zf86_2 (by decide)) hk (fun _ h => h.2)) (fun _ h => h.1)); have n1_ := Aside0.mk (KeepBut.trans zf86_0 hk (.inl rfl)); have n2_ := Aside0.mk (hb); have n3_ := Aside0.mk (hi); clear HO846; clear HK; clear HB; clear HI0; have HO846 := n0_; have HK := n1_; have HB := n2_; have HI0 := n3_; clear n0_ n1_ n2_ n3_; (try clear hb); (try clear hb2); (try clear hk); (try clear hi)))
          (try simp only [Act.put, List.setIfInBounds_toArray, List.set_cons_zero, List.set_cons_succ])
          go_loopg [5] k (fun kq v5 w' => ∃ (x5_1 : List (S80)) (x1001_1 : Int) (x1002_1 : Int), Aside0 (spec_l07AnyPieces.l0 kq x5_1 s0_0 x1001_1 x1002_1 = some (r1, r2, r3)) ∧ Aside0 (kq ≤ k) ∧ Aside0 (Kd.R k80 80 w' w.heap.size (fun _ => True) v5 x5_1) ∧ Aside0 (IsS109 w0 w' g s0_0 x1001_1 x1002_1) ∧ Aside0 (KeepBut w w' g none) ∧ Aside0 (Below w0.heap.size w0 w'))
          case atStart => exact ⟨(t844), (t850), (t851), H', ⟨Nat.le_refl _⟩, ⟨by (with_reducible repeat (first | apply Kd.R_alloc | apply Kd.R_drewN | apply Kd.R_drew)); exact HO846.out⟩, ⟨by repeat (first | (with_reducible first | exact HI0.out | apply IsS109.alloc | apply IsS109.drewN | apply IsS109.drew | apply IsS109.set_1 | apply IsS109.set_2) | exact HI0.out)⟩, ⟨by repeat (first | (with_reducible first | exact HK.out | apply KeepBut.set_ | apply keep_drewN | apply keep_drew | apply keep_alloc) | exact HK.out)⟩, ⟨by repeat (first | (with_reducible first | exact HB.out | apply below_alloc | apply pw_below_drewN | apply below_drew1 | refine below_set ?_ (IsS109.ge HI0.out)) | exact HB.out)⟩⟩
          case round =>
            clear H'
            try clear c1
            try clear hx1
            try clear c2
            try clear p2
            try clear q2
            try clear hx2
            try clear hf2
            try clear c3
            try clear hx3
            try clear hf3
            try clear c4
            try clear p4
            try clear q4
            try clear hx4
            try clear qi4
            try clear hf4
            try clear c5
            try clear c5b0
            try clear c5b1
            try clear c6
            try clear c6b0
            try clear c6b1
            try clear p6
            try clear c8
            try clear c8b0
            try clear c8b1
            try clear p8
            try clear q8
            try clear hx8
            try clear qi8
            try clear c9
            try clear p9
            try clear q9
            try clear hx9
            try clear qi9
            try clear hf9
            try clear c17
            try clear hx17
            try clear hf17
            try clear c22
            try clear c22b0
            try clear c22b1
            try clear c23
            try clear c23b0
            try clear c23b1
            try clear c26
            try clear c26b0
            try clear c27
            try clear c27b0
            try clear c28
            try clear p28
            try clear q28
            try clear hx28
            try clear hf28
            try clear c36
            try clear hx36
            try clear hf36
            try clear c41
            try clear c41b0
            try clear c41b1
            try clear c42
            try clear c42b0
            try clear c42b1
            try clear c43
            try clear c43b0
            try clear c43b1
            try clear c44
            try clear c44b0
            try clear c44b1
            try clear c45
            try clear p45
            try clear q45
            try clear hx45
            try clear qi45
            try clear hf45
            try clear c49
            try clear hx49
            try clear hf49
            try clear c54
            try clear c54b0
            try clear c54b1
            try clear hx17_1
            try clear hx28_0
            try clear hx28_1
            try clear hx28_2
            try clear hx36_2
            try clear hx45_0
            try clear hx45_1
            try clear hx45_2
            try clear hx49_0
            try clear hx866_0
            try clear hx866_1
            try clear hx866_2
            try clear hx9_0
            try clear hx9_1
            try clear hx9_2
            try clear p28
            try clear p45
            try clear p866
            try clear p9
            try clear q28
            try clear q45
            try clear q866
            try clear q9
            obtain ⟨x5_1, x1001_1, x1002_1, HA, HK1, HO_5, HI0, HK, HB⟩ := hrel
            cases gk with
            | zero => exact absurd HA.out (by simp [spec_l07AnyPieces.l0])
            | succ k1 =>
              have H := HA.out
              clear HA
              simp only [spec_l07AnyPieces.l0] at H
              replace H := Option.bind_eq_some_iff.mp H
              obtain ⟨⟨t868, t869, t870⟩, A580, H⟩ := H
              replace H : (if (x5_1.length : Int) < (wrap64 (40 + t868)) then (if x5_1.length < 5864062014805 then (spec_l07AnyPieces.l0 k1 (x5_1 ++ [(⟨wrap64 (200 + (x5_1.length : Int)), 20, 0⟩ : S80)]) s0_0 t869 t870) else (none)) else (some (x5_1, t869, t870))) = some (r1, r2, r3) := H
              have A58 := Aside0.mk A580
              clear A580
              by_cases c59 : (x5_1.length : Int) < (wrap64 (40 + t868))
              · rw [if_pos c59] at H
                have c59b0 : decide ((x5_1.length : Int) < (wrap64 (40 + t868))) = true := decide_eq_true c59
                clear c59
                by_cases c60 : x5_1.length < 5864062014805
                · rw [if_pos c60] at H
                  have LMc60 := Aside0.mk c60
                  clear c60
                  obtain ⟨y871, hy871⟩ : ∃ y_ : List (S80), y_ = (x5_1 ++ [(⟨wrap64 (200 + (x5_1.length : Int)), 20, 0⟩ : S80)]) := ⟨_, rfl⟩
                  replace H : (spec_l07AnyPieces.l0 k1 y871 s0_0 t869 t870) = some (r1, r2, r3) := by first | (rw [hy871]; with_reducible exact H) | (have H2_ := (Option.bind_some _ _).symm.trans H; rw [hy871]; with_reducible exact H2_) | (have H2_ := (Option.bind_some _ _).symm.trans H; with_reducible exact H2_) | with_reducible exact H | (rw [hy871]; exact H) | exact H
                  have Ny871 := Aside0.mk hy871
                  clear hy871
                  have H' := Aside0.mk H
                  clear H
                  obtain ⟨Ao61, co61, eo61⟩ := Kd.R_slice HO_5.out
                  subst eo61
                  go_wp2_with (first | ((with_reducible refine gate_callee (f := 87) rfl ?_); refine goesL_ (some 52) rfl rfl Try.func87 (by kernel_rfl) rfl #[.pointer (some ⟨g, 0, none⟩), .int .i64 2] rfl zf86_1 ?_; (with_reducible refine (spec_l01Below.calls g s0_0 x1001_1 x1002_1 2 t868 t869 t870 w0 _ ?side1 ?side2 A58.out).mono ?_); (case side1 => repeat (first | (with_reducible first | exact HI0.out | apply IsS109.alloc | apply IsS109.drewN | apply IsS109.drew | apply IsS109.set_1 | apply IsS109.set_2) | exact HI0.out)); (case side2 => repeat (first | (with_reducible first | exact HB.out | apply below_alloc | apply pw_below_drewN | apply below_drew1 | refine below_set ?_ (IsS109.ge HI0.out)) | exact HB.out)); rintro e w62 ⟨rfl, hi, hb, hk⟩; refine ⟨_, rfl, ?_⟩; have n0_ := Aside0.mk (Kd.R_mono (Kd.R_keep (IsS109.apart (show IsS109 w0 _ g s0_0 x1001_1 x1002_1 from by repeat (first | (with_reducible first | exact HI0.out | apply IsS109.alloc | apply IsS109.drewN | apply IsS109.drew | apply IsS109.set_1 | apply IsS109.set_2) | exact HI0.out)) zf86_6 (by decide)) hk (fun _ h => h.2)) (fun _ h => h.1)); have n1_ := Aside0.mk (KeepBut.trans zf86_0 hk (.inl rfl)); have n2_ := Aside0.mk (hb); have n3_ := Aside0.mk (hi); clear HO_5; clear HK; clear HB; clear HI0; have HO_5 := n0_; have HK := n1_; have HB := n2_; have HI0 := n3_; clear n0_ n1_ n2_ n3_; (try clear hb); (try clear hb2); (try clear hk); (try clear hi)) | ((with_reducible refine gate_builtin (b := .append) (xs := #[.tmp 55, .tmp 60]) rfl ?_); at_builtin; refine Kd.R_append k80 w.heap.size rfl (.tmp 55) (.tmp 60) 42 80 (.agg #[(.int .i64 0), (.int .i64 0), (.int .i64 0)]) 24 rfl Try.underlying42 info80 rfl (by decide) (by omega) (.slice Ao61 x5_1.length co61) x5_1 (⟨wrap64 (200 + (x5_1.length : Int)), 20, 0⟩ : S80) [.int .i64 (wrap64 (200 + (x5_1.length : Int))), .int .i64 20, .int .i64 0] (fun _ => True) (fun _ => False) rfl rfl ?aP (fun _ hk => hk.elim) ?aF ?aO (Below.refl _ _) ?aS ?aL ?_; (case aP => exact k80_mkM _ _ _ (⟨wrap64 (200 + (x5_1.length : Int)), 20, 0⟩ : S80)); (case aF => exact (fun _ _ => trivial)); (case aO => exact zf86_6); (case aS => exact (keep_size (w := w) (g := g) (row := none) zf86_0)); (case aL => have := LMc60.out; omega); intro v872 w63 ho hb hg hat; rw [← Ny871.out] at ho; have n0_ := Aside0.mk (IsS109.grown zf86_3 hg (IsS109.own_ne HI0.out HO_5.out (by decide))); have n1_ := Aside0.mk (below_weaken zf86_5 HL.out hb); have n2_ := Aside0.mk (KeepBut.trans zf86_0 (KeepBut.of_grown hg g) (Kd.R_base2 HO_5.out)); have n3_ := Aside0.mk (ho); clear HI0; clear HB; clear HK; clear HO_5; have HI0 := n0_; have HB := n1_; have HK := n2_; have HO873 := n3_; clear n0_ n1_ n2_ n3_; clear ho hb hg hat))
                  go_roundg k1
                  case measure => have := HK1.out; omega
                  case rel => exact ⟨(y871), (t869), (t870), H', ⟨by have := HK1.out; omega⟩, ⟨by (with_reducible repeat (first | apply Kd.R_alloc | apply Kd.R_drewN | apply Kd.R_drew)); exact HO873.out⟩, ⟨by repeat (first | (with_reducible first | exact HI0.out | apply IsS109.alloc | apply IsS109.drewN | apply IsS109.drew | apply IsS109.set_1 | apply IsS109.set_2) | exact HI0.out)⟩, ⟨by repeat (first | (with_reducible first | exact HK.out | apply KeepBut.set_ | apply keep_drewN | apply keep_drew | apply keep_alloc) | exact HK.out)⟩, ⟨by repeat (first | (with_reducible first | exact HB.out | apply below_alloc | apply pw_below_drewN | apply below_drew1 | refine below_set ?_ (IsS109.ge HI0.out)) | exact HB.out)⟩⟩
                · rw [if_neg c60] at H
                  exact absurd H (by simp)
              · rw [if_neg c59] at H
                have c59b0 : decide ((x5_1.length : Int) < (wrap64 (40 + t868))) = false := decide_eq_false c59
                clear c59
                simp only [Option.some.injEq, Prod.mk.injEq] at H
                obtain ⟨rfl, rfl, rfl⟩ := H
                obtain ⟨Ao64, co64, eo64⟩ := Kd.R_slice HO_5.out
                subst eo64
                go_wp2_with (first | ((with_reducible refine gate_callee (f := 87) rfl ?_); refine goesL_ (some 52) rfl rfl Try.func87 (by kernel_rfl) rfl #[.pointer (some ⟨g, 0, none⟩), .int .i64 2] rfl zf86_1 ?_; (with_reducible refine (spec_l01Below.calls g s0_0 x1001_1 x1002_1 2 t868 t869 t870 w0 _ ?side1 ?side2 A58.out).mono ?_); (case side1 => repeat (first | (with_reducible first | exact HI0.out | apply IsS109.alloc | apply IsS109.drewN | apply IsS109.drew | apply IsS109.set_1 | apply IsS109.set_2) | exact HI0.out)); (case side2 => repeat (first | (with_reducible first | exact HB.out | apply below_alloc | apply pw_below_drewN | apply below_drew1 | refine below_set ?_ (IsS109.ge HI0.out)) | exact HB.out)); rintro e w65 ⟨rfl, hi, hb, hk⟩; refine ⟨_, rfl, ?_⟩; have n0_ := Aside0.mk (Kd.R_mono (Kd.R_keep (IsS109.apart (show IsS109 w0 _ g s0_0 x1001_1 x1002_1 from by repeat (first | (with_reducible first | exact HI0.out | apply IsS109.alloc | apply IsS109.drewN | apply IsS109.drew | apply IsS109.set_1 | apply IsS109.set_2) | exact HI0.out)) zf86_6 (by decide)) hk (fun _ h => h.2)) (fun _ h => h.1)); have n1_ := Aside0.mk (KeepBut.trans zf86_0 hk (.inl rfl)); have n2_ := Aside0.mk (hb); have n3_ := Aside0.mk (hi); clear HO_5; clear HK; clear HB; clear HI0; have HO_5 := n0_; have HK := n1_; have HB := n2_; have HI0 := n3_; clear n0_ n1_ n2_ n3_; (try clear hb); (try clear hb2); (try clear hk); (try clear hi)))
                go_ret
                exact ⟨_, by first | rfl | (simp [errW_none, errW_some] <;> rfl) | (simp [*, errW_none, errW_some] <;> rfl), by (with_reducible repeat (first | apply Kd.R_alloc | apply Kd.R_drewN | apply Kd.R_drew)); exact HO_5.out, by repeat (first | (with_reducible first | exact HI0.out | apply IsS109.alloc | apply IsS109.drewN | apply IsS109.drew | apply IsS109.set_1 | apply IsS109.set_2) | exact HI0.out), by repeat (first | (with_reducible first | exact HB.out | apply below_alloc | apply pw_below_drewN | apply below_drew1 | refine below_set ?_ (IsS109.ge HI0.out)) | exact HB.out), by repeat (first | (with_reducible first | exact HK.out | apply KeepBut.set_ | apply keep_drewN | apply keep_drew | apply keep_alloc) | exact HK.out)⟩
        · rw [if_neg c54] at H
          have c54b0 : (t849 == 3) = false := beq_eq_false_iff_ne.mpr c54
          have c54b1 : (t849 != 3) = true := bne_iff_ne.mpr c54
          simp only [Option.some.injEq, Prod.mk.injEq] at H
          obtain ⟨rfl, rfl, rfl⟩ := H
          go_enter Try.func86, Try.ntmps86
          go_wp2_with (first | ((with_reducible refine gate_callee (f := 97) rfl ?_); refine goesL_ (some 9) rfl rfl Try.func97 (by kernel_rfl) rfl #[.pointer (some ⟨g, 0, none⟩), .int .i64 a1] rfl zf86_1 ?_; (with_reducible refine (spec_l07Pieces.calls k g s0_0 s0_1 s0_2 a1 t844 t847 t848 w0 _ ?side1 ?side2 A3.out).mono ?_); (case side1 => repeat (first | (with_reducible first | exact HI0.out | apply IsS109.alloc | apply IsS109.drewN | apply IsS109.drew | apply IsS109.set_1 | apply IsS109.set_2) | exact HI0.out)); (case side2 => repeat (first | (with_reducible first | exact HB.out | apply below_alloc | apply pw_below_drewN | apply below_drew1 | refine below_set ?_ (IsS109.ge HI0.out)) | exact HB.out)); rintro e w66 ⟨v845, rfl, ho0, hi, hb, hk⟩; refine ⟨_, rfl, ?_⟩; have n0_ := Aside0.mk (Kd.R_lower ho0 (keep_size (w := w) (g := g) (row := none) zf86_0)); have n1_ := Aside0.mk (KeepBut.trans zf86_0 hk (.inl rfl)); have n2_ := Aside0.mk (hb); have n3_ := Aside0.mk (hi); clear HK; clear HB; clear HI0; have HO846 := n0_; have HK := n1_; have HB := n2_; have HI0 := n3_; clear n0_ n1_ n2_ n3_; (try clear hb); (try clear hb2); (try clear hk); (try clear hi); (try clear ho0); obtain ⟨Ao67, co67, eo67⟩ := Kd.R_slice HO846.out; subst eo67) | ((with_reducible refine gate_callee (f := 87) rfl ?_); refine goesL_ (some 13) rfl rfl Try.func87 (by kernel_rfl) rfl #[.pointer (some ⟨g, 0, none⟩), .int .i64 18] rfl zf86_1 ?_; (with_reducible refine (spec_l01Below.calls g s0_0 t847 t848 18 t849 t850 t851 w0 _ ?side1 ?side2 A4.out).mono ?_); (case side1 => repeat (first | (with_reducible first | exact HI0.out | apply IsS109.alloc | apply IsS109.drewN | apply IsS109.drew | apply IsS109.set_1 | apply IsS109.set_2) | exact HI0.out)); (case side2 => repeat (first | (with_reducible first | exact HB.out | apply below_alloc | apply pw_below_drewN | apply below_drew1 | refine below_set ?_ (IsS109.ge HI0.out)) | exact HB.out)); rintro e w68 ⟨rfl, hi, hb, hk⟩; refine ⟨_, rfl, ?_⟩; have n0_ := Aside0.mk (Kd.R_mono (Kd.R_keep (IsS109.apart (show IsS109 w0 _ g s0_0 t847 t848 from by repeat (first | (with_reducible first | exact HI0.out | apply IsS109.alloc | apply IsS109.drewN | apply IsS109.drew | apply IsS109.set_1 | apply IsS109.set_2) | exact HI0.out)) zf86_2 (by decide)) hk (fun _ h => h.2)) (fun _ h => h.1)); have n1_ := Aside0.mk (KeepBut.trans zf86_0 hk (.inl rfl)); have n2_ := Aside0.mk (hb); have n3_ := Aside0.mk (hi); clear HO846; clear HK; clear HB; clear HI0; have HO846 := n0_; have HK := n1_; have HB := n2_; have HI0 := n3_; clear n0_ n1_ n2_ n3_; (try clear hb); (try clear hb2); (try clear hk); (try clear hi)))
          go_ret
          exact ⟨_, by first | rfl | (simp [errW_none, errW_some] <;> rfl) | (simp [*, errW_none, errW_some] <;> rfl), by (with_reducible repeat (first | apply Kd.R_alloc | apply Kd.R_drewN | apply Kd.R_drew)); exact HO846.out, by repeat (first | (with_reducible first | exact HI0.out | apply IsS109.alloc | apply IsS109.drewN | apply IsS109.drew | apply IsS109.set_1 | apply IsS109.set_2) | exact HI0.out), by repeat (first | (with_reducible first | exact HB.out | apply below_alloc | apply pw_below_drewN | apply below_drew1 | refine below_set ?_ (IsS109.ge HI0.out)) | exact HB.out), by repeat (first | (with_reducible first | exact HK.out | apply KeepBut.set_ | apply keep_drewN | apply keep_drew | apply keep_alloc) | exact HK.out)⟩

end Go.Proofs.Ytnldmnlfocigaaa.F

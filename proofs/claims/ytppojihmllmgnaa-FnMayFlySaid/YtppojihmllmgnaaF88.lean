-- PRINTED by print.py (a twelfth state) out of the translation. Not trusted: Lean checks it.
import Derived.Test.YtppojihmllmgnaaF
import Derived.Test.YtppojihmllmgnaaF84
import Derived.Test.YtppojihmllmgnaaF87
import Derived.Test.YtppojihmllmgnaaF85
import Derived.Test.YtppojihmllmgnaaF90
namespace Go.Proofs.Ytppojihmllmgnaa.F
open Go.Proofs.Ytppojihmllmgnaa.Opn
open Go.RowKit Go.Proofs.YtppojihmllmgnaaW.PrintWords Go.Proofs.YtppojihmllmgnaaW.PrintLast
set_option linter.unusedVariables false
set_option linter.unusedSimpArgs false

/-! ### spec_l08Any: function 88 -/
def spec_l08Any.l0 : Nat → List (S25) → List Int → Int → Int → Option ((List (S25)) × Int × Int)
 | 0, _, _, _, _ => none
 | k + 1, x3, x1000, x1001, x1002 => (spec_l01Below.f x1000 x1001 x1002 2).bind fun bt1005 => (if (x3.length : Int) < (wrap64 (60 + bt1005.1)) then (if x3.length < 3518437208883 then (spec_l08Any.l0 k (x3 ++ [(⟨wrap64 (30 + (x3.length : Int)), 2, 1, 0, 1⟩ : S25)]) x1000 bt1005.2.1 bt1005.2.2) else (none)) else (some (x3, bt1005.2.1, bt1005.2.2)))
def spec_l08Any.f (k : Nat) (s0_0 : List Int) (s0_1 : Int) (s0_2 : Int) : Option ((List (S25)) × Int × Int) := (spec_l08Notes.f k s0_0 s0_1 s0_2).bind fun bt984 => ((spec_l01Below.f s0_0 bt984.2.1 bt984.2.2 18).bind fun bt989 => (if bt989.1 = 0 then (if (bt984.1.length : Int) > 0 then ((spec_l01Below.f s0_0 bt989.2.1 bt989.2.2 (bt984.1.length : Int)).bind fun bt992 => ((spec_l08AnyNote.f s0_0 bt992.2.1 bt992.2.2).bind fun bt995 => (if 0 ≤ bt992.1 then (if bt992.1 < (bt984.1.length : Int) then (some ((bt984.1.set (bt992.1 : Int).toNat (⟨bt995.1, bt995.2.1, bt995.2.2.1, bt995.2.2.2.1, bt995.2.2.2.2.1⟩ : S25)), bt995.2.2.2.2.2.1, bt995.2.2.2.2.2.2)) else (none)) else (none)))) else (some (bt984.1, bt989.2.1, bt989.2.2))) else (if bt989.1 = 1 then (if (bt984.1.length : Int) > 1 then (if 1 < (bt984.1.length : Int) then (if 0 < (bt984.1.length : Int) then (some ((bt984.1.set (0 : Int).toNat (⟨(rd_T25 bt984.1 1).f0, (rd_T25 bt984.1 0).f1, (rd_T25 bt984.1 0).f2, (rd_T25 bt984.1 0).f3, (rd_T25 bt984.1 0).f4⟩ : S25)), bt989.2.1, bt989.2.2)) else (none)) else (none)) else (some (bt984.1, bt989.2.1, bt989.2.2))) else (if bt989.1 = 2 then (spec_l08Any.l0 k bt984.1 s0_0 bt989.2.1 bt989.2.2) else (some (bt984.1, bt989.2.1, bt989.2.2))))))
theorem spec_l08Any.mono_l : ∀ k, (∀ y0 y1 y2 y3, LeO (spec_l08Any.l0 k y0 y1 y2 y3) (spec_l08Any.l0 (k + 1) y0 y1 y2 y3))
 | 0 => fun _ _ _ _ r h => by simp [spec_l08Any.l0] at h
 | k + 1 => by
  have ih0 := spec_l08Any.mono_l k
  ·
   intro y0 y1 y2 y3
   unfold spec_l08Any.l0
   repeat' first
   | (with_reducible exact ih0 _ _ _ _)
   | (with_reducible exact spec_l08Notes.mono _ _ _ _)
   | (with_reducible exact LeO.refl _)
   | (with_reducible exact LeO.none _)
   | (with_reducible refine LeO.ite ?_ ?_)
   | (with_reducible refine LeO.bind ?_ (fun _ => ?_))
   | exact ih0 _ _ _ _
   | exact spec_l08Notes.mono _ _ _ _
   | exact LeO.none _
   | refine LeO.ite ?_ ?_
   | refine LeO.bind ?_ (fun _ => ?_)
theorem spec_l08Any.mono : ∀ a0 a1 a2 k, LeO (spec_l08Any.f k a0 a1 a2) (spec_l08Any.f (k + 1) a0 a1 a2) := by
 intro a0 a1 a2 k
 have ih0 := spec_l08Any.mono_l k
 unfold spec_l08Any.f
 repeat' first
   | (with_reducible exact ih0 _ _ _ _)
   | (with_reducible exact spec_l08Notes.mono _ _ _ _)
   | (with_reducible exact LeO.refl _)
   | (with_reducible exact LeO.none _)
   | (with_reducible refine LeO.ite ?_ ?_)
   | (with_reducible refine LeO.bind ?_ (fun _ => ?_))
   | exact ih0 _ _ _ _
   | exact spec_l08Notes.mono _ _ _ _
   | exact LeO.none _
   | refine LeO.ite ?_ ?_
   | refine LeO.bind ?_ (fun _ => ?_)
set_option maxHeartbeats 8000000 in
set_option maxRecDepth 100000 in
theorem spec_l08Any.calls (k : Nat) (g : Nat) (s0_0 : List Int) (s0_1 : Int) (s0_2 : Int) (r1 : List (S25)) (r2 : Int) (r3 : Int) (w0 w : World) (hI : IsS98 w0 w g s0_0 s0_1 s0_2) (hB : Below w0.heap.size w0 w) (h : spec_l08Any.f k s0_0 s0_1 s0_2 = some (r1, r2, r3)) :
  Calls Try.prog 88 #[.pointer (some ⟨g, 0, none⟩)] w fun e w' => ∃ v0_ : Value, e = .returned (v0_) ∧ Kd.R k25 25 w' w.heap.size (fun _ => True) v0_ r1 ∧ IsS98 w0 w' g s0_0 r2 r3 ∧ Below w0.heap.size w0 w' ∧ KeepBut w w' g none := by
 have hu25 := Try.underlying25
 have HI0 := Aside0.mk hI
 have HK := Aside0.mk (KeepBut.refl w g none)
 have HL := Aside0.mk hB.size
 clear hI
 have HW0 := Aside0.mk hB.size
 have HB := Aside0.mk hB
 clear hB
 have H : ((spec_l08Notes.f k s0_0 s0_1 s0_2).bind fun bt984 => ((spec_l01Below.f s0_0 bt984.2.1 bt984.2.2 18).bind fun bt989 => (if bt989.1 = 0 then (if (bt984.1.length : Int) > 0 then ((spec_l01Below.f s0_0 bt989.2.1 bt989.2.2 (bt984.1.length : Int)).bind fun bt992 => ((spec_l08AnyNote.f s0_0 bt992.2.1 bt992.2.2).bind fun bt995 => (if 0 ≤ bt992.1 then (if bt992.1 < (bt984.1.length : Int) then (some ((bt984.1.set (bt992.1 : Int).toNat (⟨bt995.1, bt995.2.1, bt995.2.2.1, bt995.2.2.2.1, bt995.2.2.2.2.1⟩ : S25)), bt995.2.2.2.2.2.1, bt995.2.2.2.2.2.2)) else (none)) else (none)))) else (some (bt984.1, bt989.2.1, bt989.2.2))) else (if bt989.1 = 1 then (if (bt984.1.length : Int) > 1 then (if 1 < (bt984.1.length : Int) then (if 0 < (bt984.1.length : Int) then (some ((bt984.1.set (0 : Int).toNat (⟨(rd_T25 bt984.1 1).f0, (rd_T25 bt984.1 0).f1, (rd_T25 bt984.1 0).f2, (rd_T25 bt984.1 0).f3, (rd_T25 bt984.1 0).f4⟩ : S25)), bt989.2.1, bt989.2.2)) else (none)) else (none)) else (some (bt984.1, bt989.2.1, bt989.2.2))) else (if bt989.1 = 2 then (spec_l08Any.l0 k bt984.1 s0_0 bt989.2.1 bt989.2.2) else (some (bt984.1, bt989.2.1, bt989.2.2))))))) = some (r1, r2, r3) := h
 clear h
 replace H := Option.bind_eq_some_iff.mp H
 obtain ⟨⟨t984, t987, t988⟩, A20, H⟩ := H
 replace H : ((spec_l01Below.f s0_0 t987 t988 18).bind fun bt989 => (if bt989.1 = 0 then (if (t984.length : Int) > 0 then ((spec_l01Below.f s0_0 bt989.2.1 bt989.2.2 (t984.length : Int)).bind fun bt992 => ((spec_l08AnyNote.f s0_0 bt992.2.1 bt992.2.2).bind fun bt995 => (if 0 ≤ bt992.1 then (if bt992.1 < (t984.length : Int) then (some ((t984.set (bt992.1 : Int).toNat (⟨bt995.1, bt995.2.1, bt995.2.2.1, bt995.2.2.2.1, bt995.2.2.2.2.1⟩ : S25)), bt995.2.2.2.2.2.1, bt995.2.2.2.2.2.2)) else (none)) else (none)))) else (some (t984, bt989.2.1, bt989.2.2))) else (if bt989.1 = 1 then (if (t984.length : Int) > 1 then (if 1 < (t984.length : Int) then (if 0 < (t984.length : Int) then (some ((t984.set (0 : Int).toNat (⟨(rd_T25 t984 1).f0, (rd_T25 t984 0).f1, (rd_T25 t984 0).f2, (rd_T25 t984 0).f3, (rd_T25 t984 0).f4⟩ : S25)), bt989.2.1, bt989.2.2)) else (none)) else (none)) else (some (t984, bt989.2.1, bt989.2.2))) else (if bt989.1 = 2 then (spec_l08Any.l0 k t984 s0_0 bt989.2.1 bt989.2.2) else (some (t984, bt989.2.1, bt989.2.2)))))) = some (r1, r2, r3) := H
 have A2 := Aside0.mk A20
 clear A20
 replace H := Option.bind_eq_some_iff.mp H
 obtain ⟨⟨t989, t990, t991⟩, A30, H⟩ := H
 replace H : (if t989 = 0 then (if (t984.length : Int) > 0 then ((spec_l01Below.f s0_0 t990 t991 (t984.length : Int)).bind fun bt992 => ((spec_l08AnyNote.f s0_0 bt992.2.1 bt992.2.2).bind fun bt995 => (if 0 ≤ bt992.1 then (if bt992.1 < (t984.length : Int) then (some ((t984.set (bt992.1 : Int).toNat (⟨bt995.1, bt995.2.1, bt995.2.2.1, bt995.2.2.2.1, bt995.2.2.2.2.1⟩ : S25)), bt995.2.2.2.2.2.1, bt995.2.2.2.2.2.2)) else (none)) else (none)))) else (some (t984, t990, t991))) else (if t989 = 1 then (if (t984.length : Int) > 1 then (if 1 < (t984.length : Int) then (if 0 < (t984.length : Int) then (some ((t984.set (0 : Int).toNat (⟨(rd_T25 t984 1).f0, (rd_T25 t984 0).f1, (rd_T25 t984 0).f2, (rd_T25 t984 0).f3, (rd_T25 t984 0).f4⟩ : S25)), t990, t991)) else (none)) else (none)) else (some (t984, t990, t991))) else (if t989 = 2 then (spec_l08Any.l0 k t984 s0_0 t990 t991) else (some (t984, t990, t991))))) = some (r1, r2, r3) := H
 have A3 := Aside0.mk A30
 clear A30
 by_cases c4 : t989 = 0
 ·
  rw [if_pos c4] at H
  have c4b0 : (t989 == 0) = true := beq_iff_eq.mpr c4
  have c4b1 : (t989 != 0) = false := bne_eq_false_iff_eq.mpr c4
  clear c4
  by_cases c5 : (t984.length : Int) > 0
  ·
   rw [if_pos c5] at H
   have c5b0 : decide (0 < (t984.length : Int)) = true := decide_eq_true c5
   have c5b1 : decide (0 < t984.length) = true := decide_eq_true (by omega)
   clear c5
   replace H := Option.bind_eq_some_iff.mp H
   obtain ⟨⟨t992, t993, t994⟩, A60, H⟩ := H
   replace H : ((spec_l08AnyNote.f s0_0 t993 t994).bind fun bt995 => (if 0 ≤ t992 then (if t992 < (t984.length : Int) then (some ((t984.set (t992 : Int).toNat (⟨bt995.1, bt995.2.1, bt995.2.2.1, bt995.2.2.2.1, bt995.2.2.2.2.1⟩ : S25)), bt995.2.2.2.2.2.1, bt995.2.2.2.2.2.2)) else (none)) else (none))) = some (r1, r2, r3) := H
   have A6 := Aside0.mk A60
   clear A60
   replace H := Option.bind_eq_some_iff.mp H
   obtain ⟨⟨t995, t996, t997, t998, t999, t1000, t1001⟩, A70, H⟩ := H
   replace H : (if 0 ≤ t992 then (if t992 < (t984.length : Int) then (some ((t984.set (t992 : Int).toNat (⟨t995, t996, t997, t998, t999⟩ : S25)), t1000, t1001)) else (none)) else (none)) = some (r1, r2, r3) := H
   have A7 := Aside0.mk A70
   clear A70
   by_cases c8 : 0 ≤ t992
   ·
    rw [if_pos c8] at H
    have c8b0 : decide (0 ≤ t992) = true := decide_eq_true c8
    clear c8
    by_cases c9 : t992 < (t984.length : Int)
    ·
     rw [if_pos c9] at H
     have c9b0 : decide (t992 < (t984.length : Int)) = true := decide_eq_true c9
     clear c9
     obtain ⟨y1002, hy1002⟩ : ∃ y_ : List (S25), y_ = (t984.set (t992 : Int).toNat (⟨t995, t996, t997, t998, t999⟩ : S25)) := ⟨_, rfl⟩
     replace H : (some (y1002, t1000, t1001)) = some (r1, r2, r3) := by rw [hy1002]; exact H
     have Ny1002 := Aside0.mk hy1002
     clear hy1002
     simp only [Option.some.injEq, Prod.mk.injEq] at H
     obtain ⟨rfl, rfl, rfl⟩ := H
     go_enter Try.func88, Try.ntmps88
     go_wp2_with (first | ((with_reducible refine gate_callee (f := 85) rfl ?_); refine goesL_ (some 6) rfl rfl Try.func85 (by kernel_rfl) rfl #[.pointer (some ⟨g, 0, none⟩)] rfl (by (try simp only [List.map_toArray, List.map_cons, List.map_nil]); first | done | rfl | (simp only [List.length_drop, List.length_take]; rfl)) ?_; (with_reducible refine (spec_l08Notes.calls k g s0_0 s0_1 s0_2 t984 t987 t988 w0 _ ?side1 ?side2 A2.out).mono ?_); (case side1 => repeat (first | (with_reducible first | exact HI0.out | apply IsS98.alloc | apply IsS98.drewN | apply IsS98.drew | apply IsS98.set_1 | apply IsS98.set_2) | exact HI0.out)); (case side2 => repeat (first | (with_reducible first | exact HB.out | apply below_alloc | apply pw_below_drewN | apply below_drew1 | refine below_set ?_ (IsS98.ge HI0.out)) | exact HB.out)); rintro e w11 ⟨v985, rfl, ho0, hi, hb, hk⟩; refine ⟨_, rfl, ?_⟩; have n0_ := Aside0.mk (Kd.R_lower ho0 (keep_size (w := w) (g := g) (row := none) (by repeat (first | (with_reducible first | exact HK.out | apply KeepBut.set_ | apply keep_drewN | apply keep_drew | apply keep_alloc) | exact HK.out)))); have n1_ := Aside0.mk (KeepBut.trans (by repeat (first | (with_reducible first | exact HK.out | apply KeepBut.set_ | apply keep_drewN | apply keep_drew | apply keep_alloc) | exact HK.out)) hk (.inl rfl)); have n2_ := Aside0.mk (hb); have n3_ := Aside0.mk (hi); clear HK; clear HB; clear HI0; have HO986 := n0_; have HK := n1_; have HB := n2_; have HI0 := n3_; clear n0_ n1_ n2_ n3_; (try clear hb); (try clear hb2); (try clear hk); (try clear hi); (try clear ho0); obtain ⟨Ao12, co12, eo12⟩ := Kd.R_slice HO986.out; subst eo12) | ((with_reducible refine gate_callee (f := 87) rfl ?_); refine goesL_ (some 10) rfl rfl Try.func87 (by kernel_rfl) rfl #[.pointer (some ⟨g, 0, none⟩), .int .i64 18] rfl (by (try simp only [List.map_toArray, List.map_cons, List.map_nil]); first | done | rfl | (simp only [List.length_drop, List.length_take]; rfl)) ?_; (with_reducible refine (spec_l01Below.calls g s0_0 t987 t988 18 t989 t990 t991 w0 _ ?side1 ?side2 A3.out).mono ?_); (case side1 => repeat (first | (with_reducible first | exact HI0.out | apply IsS98.alloc | apply IsS98.drewN | apply IsS98.drew | apply IsS98.set_1 | apply IsS98.set_2) | exact HI0.out)); (case side2 => repeat (first | (with_reducible first | exact HB.out | apply below_alloc | apply pw_below_drewN | apply below_drew1 | refine below_set ?_ (IsS98.ge HI0.out)) | exact HB.out)); rintro e w13 ⟨rfl, hi, hb, hk⟩; refine ⟨_, rfl, ?_⟩; have n0_ := Aside0.mk (Kd.R_mono (Kd.R_keep (IsS98.apart (show IsS98 w0 _ g s0_0 t987 t988 from by repeat (first | (with_reducible first | exact HI0.out | apply IsS98.alloc | apply IsS98.drewN | apply IsS98.drew | apply IsS98.set_1 | apply IsS98.set_2) | exact HI0.out)) (by (with_reducible repeat (first | apply Kd.R_alloc | apply Kd.R_drewN | apply Kd.R_drew)); exact HO986.out) (by decide)) hk (fun _ h => h.2)) (fun _ h => h.1)); have n1_ := Aside0.mk (KeepBut.trans (by repeat (first | (with_reducible first | exact HK.out | apply KeepBut.set_ | apply keep_drewN | apply keep_drew | apply keep_alloc) | exact HK.out)) hk (.inl rfl)); have n2_ := Aside0.mk (hb); have n3_ := Aside0.mk (hi); clear HO986; clear HK; clear HB; clear HI0; have HO986 := n0_; have HK := n1_; have HB := n2_; have HI0 := n3_; clear n0_ n1_ n2_ n3_; (try clear hb); (try clear hb2); (try clear hk); (try clear hi)) | ((with_reducible refine gate_callee (f := 87) rfl ?_); refine goesL_ (some 18) rfl rfl Try.func87 (by kernel_rfl) rfl #[.pointer (some ⟨g, 0, none⟩), .int .i64 (t984.length : Int)] rfl (by (try simp only [List.map_toArray, List.map_cons, List.map_nil]); first | done | rfl | (simp only [List.length_drop, List.length_take]; rfl)) ?_; (with_reducible refine (spec_l01Below.calls g s0_0 t990 t991 (t984.length : Int) t992 t993 t994 w0 _ ?side1 ?side2 A6.out).mono ?_); (case side1 => repeat (first | (with_reducible first | exact HI0.out | apply IsS98.alloc | apply IsS98.drewN | apply IsS98.drew | apply IsS98.set_1 | apply IsS98.set_2) | exact HI0.out)); (case side2 => repeat (first | (with_reducible first | exact HB.out | apply below_alloc | apply pw_below_drewN | apply below_drew1 | refine below_set ?_ (IsS98.ge HI0.out)) | exact HB.out)); rintro e w14 ⟨rfl, hi, hb, hk⟩; refine ⟨_, rfl, ?_⟩; have n0_ := Aside0.mk (Kd.R_mono (Kd.R_keep (IsS98.apart (show IsS98 w0 _ g s0_0 t990 t991 from by repeat (first | (with_reducible first | exact HI0.out | apply IsS98.alloc | apply IsS98.drewN | apply IsS98.drew | apply IsS98.set_1 | apply IsS98.set_2) | exact HI0.out)) (by (with_reducible repeat (first | apply Kd.R_alloc | apply Kd.R_drewN | apply Kd.R_drew)); exact HO986.out) (by decide)) hk (fun _ h => h.2)) (fun _ h => h.1)); have n1_ := Aside0.mk (KeepBut.trans (by repeat (first | (with_reducible first | exact HK.out | apply KeepBut.set_ | apply keep_drewN | apply keep_drew | apply keep_alloc) | exact HK.out)) hk (.inl rfl)); have n2_ := Aside0.mk (hb); have n3_ := Aside0.mk (hi); clear HO986; clear HK; clear HB; clear HI0; have HO986 := n0_; have HK := n1_; have HB := n2_; have HI0 := n3_; clear n0_ n1_ n2_ n3_; (try clear hb); (try clear hb2); (try clear hk); (try clear hi)) | ((with_reducible refine gate_callee (f := 90) rfl ?_); refine goesL_ (some 20) rfl rfl Try.func90 (by kernel_rfl) rfl #[.pointer (some ⟨g, 0, none⟩)] rfl (by (try simp only [List.map_toArray, List.map_cons, List.map_nil]); first | done | rfl | (simp only [List.length_drop, List.length_take]; rfl)) ?_; (with_reducible refine (spec_l08AnyNote.calls g s0_0 t993 t994 t995 t996 t997 t998 t999 t1000 t1001 w0 _ ?side1 ?side2 A7.out).mono ?_); (case side1 => repeat (first | (with_reducible first | exact HI0.out | apply IsS98.alloc | apply IsS98.drewN | apply IsS98.drew | apply IsS98.set_1 | apply IsS98.set_2) | exact HI0.out)); (case side2 => repeat (first | (with_reducible first | exact HB.out | apply below_alloc | apply pw_below_drewN | apply below_drew1 | refine below_set ?_ (IsS98.ge HI0.out)) | exact HB.out)); rintro e w15 ⟨rfl, hi, hb, hk⟩; refine ⟨_, rfl, ?_⟩; have n0_ := Aside0.mk (Kd.R_mono (Kd.R_keep (IsS98.apart (show IsS98 w0 _ g s0_0 t993 t994 from by repeat (first | (with_reducible first | exact HI0.out | apply IsS98.alloc | apply IsS98.drewN | apply IsS98.drew | apply IsS98.set_1 | apply IsS98.set_2) | exact HI0.out)) (by (with_reducible repeat (first | apply Kd.R_alloc | apply Kd.R_drewN | apply Kd.R_drew)); exact HO986.out) (by decide)) hk (fun _ h => h.2)) (fun _ h => h.1)); have n1_ := Aside0.mk (KeepBut.trans (by repeat (first | (with_reducible first | exact HK.out | apply KeepBut.set_ | apply keep_drewN | apply keep_drew | apply keep_alloc) | exact HK.out)) hk (.inl rfl)); have n2_ := Aside0.mk (hb); have n3_ := Aside0.mk (hi); clear HO986; clear HK; clear HB; clear HI0; have HO986 := n0_; have HK := n1_; have HB := n2_; have HI0 := n3_; clear n0_ n1_ n2_ n3_; (try clear hb); (try clear hb2); (try clear hk); (try clear hi); have p10 : 0 ≤ (t992 : Int) := of_decide_eq_true (by first | (with_reducible assumption) | assumption); have q10 : (t992 : Int) < ((t984.length : Int) : Int) := of_decide_eq_true (by first | (with_reducible assumption) | assumption); obtain ⟨go10, co10, eo10, gb10, gl10, cl10, HG10⟩ := Kd.R_form HO986.out (by omega); (first | cases eo10 | (injection eo10 with ea_ en_ ec_; (first | subst ea_ | (injection ea_ with ea_; subst ea_)); subst ec_; clear en_)); have GB10 := Aside0.mk gb10; have GG10 := Aside0.mk HG10; clear gb10 gl10 HG10; obtain ⟨ce10, hcl10, hM10, hcc10, hfr10⟩ := Kd.R_elem HO986.out z25 (t992 : Int) p10 q10; obtain rfl := k25_openM hM10; have hx10_0 : w15.cell? ⟨go10, (t992 : Int).toNat * 5, none⟩ = some (.int .i64 ((rd_T25 t984 t992).f0)) := hcc10 0 _ rfl; have hx10_1 : w15.cell? ⟨go10, (t992 : Int).toNat * 5 + 1, none⟩ = some (.int .i64 ((rd_T25 t984 t992).f1)) := hcc10 1 _ rfl; have hx10_2 : w15.cell? ⟨go10, (t992 : Int).toNat * 5 + 2, none⟩ = some (.int .i64 ((rd_T25 t984 t992).f2)) := hcc10 2 _ rfl; have hx10_3 : w15.cell? ⟨go10, (t992 : Int).toNat * 5 + 3, none⟩ = some (.int .i64 ((rd_T25 t984 t992).f3)) := hcc10 3 _ rfl; have hx10_4 : w15.cell? ⟨go10, (t992 : Int).toNat * 5 + 4, none⟩ = some (.int .i64 ((rd_T25 t984 t992).f4)) := hcc10 4 _ rfl; have hf10_0 : w15.frozen? ⟨go10, (t992 : Int).toNat * 5, none⟩ = false := hfr10 0; have hf10_1 : w15.frozen? ⟨go10, (t992 : Int).toNat * 5 + 1, none⟩ = false := hfr10 1; have hf10_2 : w15.frozen? ⟨go10, (t992 : Int).toNat * 5 + 2, none⟩ = false := hfr10 2; have hf10_3 : w15.frozen? ⟨go10, (t992 : Int).toNat * 5 + 3, none⟩ = false := hfr10 3; have hf10_4 : w15.frozen? ⟨go10, (t992 : Int).toNat * 5 + 4, none⟩ = false := hfr10 4; clear hcl10 hcc10 hfr10 hM10; replace p10 := eq_true p10; replace q10 := eq_true q10; have HX16 := Aside0.mk (show Kd.R k25 25 w15 w.heap.size (fun _ => True) (.slice (some ⟨go10, 0, none⟩) t984.length co12) t984 from (by (with_reducible repeat (first | apply Kd.R_alloc | apply Kd.R_drewN | apply Kd.R_drew)); exact HO986.out)); obtain ⟨ce16, hcl16, hM16, hcc16, hfr16⟩ := Kd.R_elem HX16.out z25 (t992 : Int) (of_decide_eq_true (by first | (with_reducible assumption) | assumption)) (by have h_ : (t992 : Int) < ((t984.length : Int) : Int) := of_decide_eq_true (by first | (with_reducible assumption) | assumption); first | exact h_ | (have e_ := (Kd.R_reads' HO986.out).1; omega) | simpa using h_); obtain rfl := k25_openM hM16; have HP16 := Kd.R_seg HX16.out (t992 : Int) (of_decide_eq_true (by first | (with_reducible assumption) | assumption)) (by have h_ : (t992 : Int) < ((t984.length : Int) : Int) := of_decide_eq_true (by first | (with_reducible assumption) | assumption); first | exact h_ | (have e_ := (Kd.R_reads' HO986.out).1; omega) | simpa using h_) (seg := [.int .i64 t995, .int .i64 t996, .int .i64 t997, .int .i64 t998, .int .i64 t999]) (j := 0) hcl16 hcc16 (show 5 ≤ 5 from by decide) (x' := (⟨t995, t996, t997, t998, t999⟩ : S25)) (k25_mkM _ _ _ (⟨t995, t996, t997, t998, t999⟩ : S25) ) (fun _ hk => hk); have hx16_0 := hcc16 0 _ rfl; (try simp only [show (k25).sz = 5 from rfl, Nat.mul_one, Nat.add_zero] at hx16_0); have hf16_0 := hfr16 0; (try simp only [show (k25).sz = 5 from rfl, Nat.mul_one, Nat.add_zero] at hf16_0); have hx16_1 := hcc16 1 _ rfl; (try simp only [show (k25).sz = 5 from rfl, Nat.mul_one, Nat.add_zero] at hx16_1); have hf16_1 := hfr16 1; (try simp only [show (k25).sz = 5 from rfl, Nat.mul_one, Nat.add_zero] at hf16_1); have hx16_2 := hcc16 2 _ rfl; (try simp only [show (k25).sz = 5 from rfl, Nat.mul_one, Nat.add_zero] at hx16_2); have hf16_2 := hfr16 2; (try simp only [show (k25).sz = 5 from rfl, Nat.mul_one, Nat.add_zero] at hf16_2); have hx16_3 := hcc16 3 _ rfl; (try simp only [show (k25).sz = 5 from rfl, Nat.mul_one, Nat.add_zero] at hx16_3); have hf16_3 := hfr16 3; (try simp only [show (k25).sz = 5 from rfl, Nat.mul_one, Nat.add_zero] at hf16_3); have hx16_4 := hcc16 4 _ rfl; (try simp only [show (k25).sz = 5 from rfl, Nat.mul_one, Nat.add_zero] at hx16_4); have hf16_4 := hfr16 4; (try simp only [show (k25).sz = 5 from rfl, Nat.mul_one, Nat.add_zero] at hf16_4); clear hcl16 hcc16 hfr16 hM16) | ((with_reducible refine gate_store (t := 25) (p := 21) rfl ?_); refine store_event (t := 25) (p := 21) (v := ?vo_w17) (w1 := (((((w15.setCell ⟨go10, (t992 : Int).toNat * 5, none⟩ (.int .i64 t995)).setCell ⟨go10, (t992 : Int).toNat * 5 + 1, none⟩ (.int .i64 t996)).setCell ⟨go10, (t992 : Int).toNat * 5 + 2, none⟩ (.int .i64 t997)).setCell ⟨go10, (t992 : Int).toNat * 5 + 3, none⟩ (.int .i64 t998)).setCell ⟨go10, (t992 : Int).toNat * 5 + 4, none⟩ (.int .i64 t999))) ?hg ?ho ?hn ?hr ?_; (case ho => rfl); (case hg => rfl); (case hn => rfl); (case hr => first | (go_simp; done) | (go_simp; rfl)); intro w17 hw; have hg : w15.grownBy w17 (some go10) := (by rw [hw]; exact HP16.2); have hp_ : Kd.R k25 25 w17 w.heap.size (fun _ => True) (.slice (some ⟨go10, 0, none⟩) t984.length co12) y1002 := (by rw [hw, Ny1002.out]; exact HP16.1); clear HP16; have n0_ := Aside0.mk (IsS98.grown (by repeat (first | (with_reducible first | exact HI0.out | apply IsS98.alloc | apply IsS98.drewN | apply IsS98.drew | apply IsS98.set_1 | apply IsS98.set_2) | exact HI0.out)) hg (IsS98.own_ne HI0.out HO986.out (by decide))); have n1_ := Aside0.mk (hp_); have n2_ := Aside0.mk ((by rw [hw]; exact below_set (below_set (below_set (below_set (below_set (HB.out) (Nat.le_trans HL.out GB10.out)) (Nat.le_trans HL.out GB10.out)) (Nat.le_trans HL.out GB10.out)) (Nat.le_trans HL.out GB10.out)) (Nat.le_trans HL.out GB10.out) : Below w0.heap.size w0 w17)); have n3_ := Aside0.mk (KeepBut.trans (by repeat (first | (with_reducible first | exact HK.out | apply KeepBut.set_ | apply keep_drewN | apply keep_drew | apply keep_alloc) | exact HK.out)) (KeepBut.of_grown hg g) (Kd.R_base2 HO986.out)); clear HI0; clear HO986; clear HB; clear HK; have HI0 := n0_; have HO986 := n1_; have HB := n2_; have HK := n3_; clear n0_ n1_ n2_ n3_; clear hg hw hp_))
     go_ret
     exact ⟨_, rfl, by exact HO986.out, by repeat (first | exact HI0.out | apply IsS98.set_1 | apply IsS98.set_2), by repeat (first | exact HB.out | refine below_set ?_ (IsS98.ge HI0.out)), by repeat (first | exact HK.out | apply KeepBut.set_)⟩
    ·
     rw [if_neg c9] at H
     exact absurd H (by simp)
   ·
    rw [if_neg c8] at H
    exact absurd H (by simp)
  ·
   rw [if_neg c5] at H
   have c5b0 : decide (0 < (t984.length : Int)) = false := decide_eq_false c5
   have c5b1 : decide (0 < t984.length) = false := decide_eq_false (by omega)
   clear c5
   simp only [Option.some.injEq, Prod.mk.injEq] at H
   obtain ⟨rfl, rfl, rfl⟩ := H
   go_enter Try.func88, Try.ntmps88
   go_wp2_with (first | ((with_reducible refine gate_callee (f := 85) rfl ?_); refine goesL_ (some 6) rfl rfl Try.func85 (by kernel_rfl) rfl #[.pointer (some ⟨g, 0, none⟩)] rfl (by (try simp only [List.map_toArray, List.map_cons, List.map_nil]); first | done | rfl | (simp only [List.length_drop, List.length_take]; rfl)) ?_; (with_reducible refine (spec_l08Notes.calls k g s0_0 s0_1 s0_2 t984 t987 t988 w0 _ ?side1 ?side2 A2.out).mono ?_); (case side1 => repeat (first | (with_reducible first | exact HI0.out | apply IsS98.alloc | apply IsS98.drewN | apply IsS98.drew | apply IsS98.set_1 | apply IsS98.set_2) | exact HI0.out)); (case side2 => repeat (first | (with_reducible first | exact HB.out | apply below_alloc | apply pw_below_drewN | apply below_drew1 | refine below_set ?_ (IsS98.ge HI0.out)) | exact HB.out)); rintro e w18 ⟨v985, rfl, ho0, hi, hb, hk⟩; refine ⟨_, rfl, ?_⟩; have n0_ := Aside0.mk (Kd.R_lower ho0 (keep_size (w := w) (g := g) (row := none) (by repeat (first | (with_reducible first | exact HK.out | apply KeepBut.set_ | apply keep_drewN | apply keep_drew | apply keep_alloc) | exact HK.out)))); have n1_ := Aside0.mk (KeepBut.trans (by repeat (first | (with_reducible first | exact HK.out | apply KeepBut.set_ | apply keep_drewN | apply keep_drew | apply keep_alloc) | exact HK.out)) hk (.inl rfl)); have n2_ := Aside0.mk (hb); have n3_ := Aside0.mk (hi); clear HK; clear HB; clear HI0; have HO986 := n0_; have HK := n1_; have HB := n2_; have HI0 := n3_; clear n0_ n1_ n2_ n3_; (try clear hb); (try clear hb2); (try clear hk); (try clear hi); (try clear ho0); obtain ⟨Ao19, co19, eo19⟩ := Kd.R_slice HO986.out; subst eo19) | ((with_reducible refine gate_callee (f := 87) rfl ?_); refine goesL_ (some 10) rfl rfl Try.func87 (by kernel_rfl) rfl #[.pointer (some ⟨g, 0, none⟩), .int .i64 18] rfl (by (try simp only [List.map_toArray, List.map_cons, List.map_nil]); first | done | rfl | (simp only [List.length_drop, List.length_take]; rfl)) ?_; (with_reducible refine (spec_l01Below.calls g s0_0 t987 t988 18 t989 t990 t991 w0 _ ?side1 ?side2 A3.out).mono ?_); (case side1 => repeat (first | (with_reducible first | exact HI0.out | apply IsS98.alloc | apply IsS98.drewN | apply IsS98.drew | apply IsS98.set_1 | apply IsS98.set_2) | exact HI0.out)); (case side2 => repeat (first | (with_reducible first | exact HB.out | apply below_alloc | apply pw_below_drewN | apply below_drew1 | refine below_set ?_ (IsS98.ge HI0.out)) | exact HB.out)); rintro e w20 ⟨rfl, hi, hb, hk⟩; refine ⟨_, rfl, ?_⟩; have n0_ := Aside0.mk (Kd.R_mono (Kd.R_keep (IsS98.apart (show IsS98 w0 _ g s0_0 t987 t988 from by repeat (first | (with_reducible first | exact HI0.out | apply IsS98.alloc | apply IsS98.drewN | apply IsS98.drew | apply IsS98.set_1 | apply IsS98.set_2) | exact HI0.out)) (by (with_reducible repeat (first | apply Kd.R_alloc | apply Kd.R_drewN | apply Kd.R_drew)); exact HO986.out) (by decide)) hk (fun _ h => h.2)) (fun _ h => h.1)); have n1_ := Aside0.mk (KeepBut.trans (by repeat (first | (with_reducible first | exact HK.out | apply KeepBut.set_ | apply keep_drewN | apply keep_drew | apply keep_alloc) | exact HK.out)) hk (.inl rfl)); have n2_ := Aside0.mk (hb); have n3_ := Aside0.mk (hi); clear HO986; clear HK; clear HB; clear HI0; have HO986 := n0_; have HK := n1_; have HB := n2_; have HI0 := n3_; clear n0_ n1_ n2_ n3_; (try clear hb); (try clear hb2); (try clear hk); (try clear hi)))
   go_ret
   exact ⟨_, rfl, by exact HO986.out, by repeat (first | exact HI0.out | apply IsS98.set_1 | apply IsS98.set_2), by repeat (first | exact HB.out | refine below_set ?_ (IsS98.ge HI0.out)), by repeat (first | exact HK.out | apply KeepBut.set_)⟩
 ·
  rw [if_neg c4] at H
  have c4b0 : (t989 == 0) = false := beq_eq_false_iff_ne.mpr c4
  have c4b1 : (t989 != 0) = true := bne_iff_ne.mpr c4
  by_cases c21 : t989 = 1
  ·
   rw [if_pos c21] at H
   have c21b0 : (t989 == 1) = true := beq_iff_eq.mpr c21
   have c21b1 : (t989 != 1) = false := bne_eq_false_iff_eq.mpr c21
   clear c21
   by_cases c22 : (t984.length : Int) > 1
   ·
    rw [if_pos c22] at H
    have c22b0 : decide (1 < (t984.length : Int)) = true := decide_eq_true c22
    have c22b1 : decide (1 < t984.length) = true := decide_eq_true (by omega)
    clear c22
    by_cases c23 : 1 < (t984.length : Int)
    ·
     rw [if_pos c23] at H
     have c23b0 : decide (1 < (t984.length : Int)) = true := decide_eq_true c23
     have c23b1 : decide (1 < t984.length) = true := decide_eq_true (by omega)
     clear c23
     by_cases c24 : 0 < (t984.length : Int)
     ·
      rw [if_pos c24] at H
      have c24b0 : decide (0 < (t984.length : Int)) = true := decide_eq_true c24
      have c24b1 : decide (0 < t984.length) = true := decide_eq_true (by omega)
      clear c24
      obtain ⟨y1004, hy1004⟩ : ∃ y_ : List (S25), y_ = (t984.set (0 : Int).toNat (⟨(rd_T25 t984 1).f0, (rd_T25 t984 0).f1, (rd_T25 t984 0).f2, (rd_T25 t984 0).f3, (rd_T25 t984 0).f4⟩ : S25)) := ⟨_, rfl⟩
      replace H : (some (y1004, t990, t991)) = some (r1, r2, r3) := by rw [hy1004]; exact H
      have Ny1004 := Aside0.mk hy1004
      clear hy1004
      simp only [Option.some.injEq, Prod.mk.injEq] at H
      obtain ⟨rfl, rfl, rfl⟩ := H
      go_enter Try.func88, Try.ntmps88
      go_wp2_with (first | ((with_reducible refine gate_callee (f := 85) rfl ?_); refine goesL_ (some 6) rfl rfl Try.func85 (by kernel_rfl) rfl #[.pointer (some ⟨g, 0, none⟩)] rfl (by (try simp only [List.map_toArray, List.map_cons, List.map_nil]); first | done | rfl | (simp only [List.length_drop, List.length_take]; rfl)) ?_; (with_reducible refine (spec_l08Notes.calls k g s0_0 s0_1 s0_2 t984 t987 t988 w0 _ ?side1 ?side2 A2.out).mono ?_); (case side1 => repeat (first | (with_reducible first | exact HI0.out | apply IsS98.alloc | apply IsS98.drewN | apply IsS98.drew | apply IsS98.set_1 | apply IsS98.set_2) | exact HI0.out)); (case side2 => repeat (first | (with_reducible first | exact HB.out | apply below_alloc | apply pw_below_drewN | apply below_drew1 | refine below_set ?_ (IsS98.ge HI0.out)) | exact HB.out)); rintro e w26 ⟨v985, rfl, ho0, hi, hb, hk⟩; refine ⟨_, rfl, ?_⟩; have n0_ := Aside0.mk (Kd.R_lower ho0 (keep_size (w := w) (g := g) (row := none) (by repeat (first | (with_reducible first | exact HK.out | apply KeepBut.set_ | apply keep_drewN | apply keep_drew | apply keep_alloc) | exact HK.out)))); have n1_ := Aside0.mk (KeepBut.trans (by repeat (first | (with_reducible first | exact HK.out | apply KeepBut.set_ | apply keep_drewN | apply keep_drew | apply keep_alloc) | exact HK.out)) hk (.inl rfl)); have n2_ := Aside0.mk (hb); have n3_ := Aside0.mk (hi); clear HK; clear HB; clear HI0; have HO986 := n0_; have HK := n1_; have HB := n2_; have HI0 := n3_; clear n0_ n1_ n2_ n3_; (try clear hb); (try clear hb2); (try clear hk); (try clear hi); (try clear ho0); obtain ⟨Ao27, co27, eo27⟩ := Kd.R_slice HO986.out; subst eo27) | ((with_reducible refine gate_callee (f := 87) rfl ?_); refine goesL_ (some 10) rfl rfl Try.func87 (by kernel_rfl) rfl #[.pointer (some ⟨g, 0, none⟩), .int .i64 18] rfl (by (try simp only [List.map_toArray, List.map_cons, List.map_nil]); first | done | rfl | (simp only [List.length_drop, List.length_take]; rfl)) ?_; (with_reducible refine (spec_l01Below.calls g s0_0 t987 t988 18 t989 t990 t991 w0 _ ?side1 ?side2 A3.out).mono ?_); (case side1 => repeat (first | (with_reducible first | exact HI0.out | apply IsS98.alloc | apply IsS98.drewN | apply IsS98.drew | apply IsS98.set_1 | apply IsS98.set_2) | exact HI0.out)); (case side2 => repeat (first | (with_reducible first | exact HB.out | apply below_alloc | apply pw_below_drewN | apply below_drew1 | refine below_set ?_ (IsS98.ge HI0.out)) | exact HB.out)); rintro e w28 ⟨rfl, hi, hb, hk⟩; refine ⟨_, rfl, ?_⟩; have n0_ := Aside0.mk (Kd.R_mono (Kd.R_keep (IsS98.apart (show IsS98 w0 _ g s0_0 t987 t988 from by repeat (first | (with_reducible first | exact HI0.out | apply IsS98.alloc | apply IsS98.drewN | apply IsS98.drew | apply IsS98.set_1 | apply IsS98.set_2) | exact HI0.out)) (by (with_reducible repeat (first | apply Kd.R_alloc | apply Kd.R_drewN | apply Kd.R_drew)); exact HO986.out) (by decide)) hk (fun _ h => h.2)) (fun _ h => h.1)); have n1_ := Aside0.mk (KeepBut.trans (by repeat (first | (with_reducible first | exact HK.out | apply KeepBut.set_ | apply keep_drewN | apply keep_drew | apply keep_alloc) | exact HK.out)) hk (.inl rfl)); have n2_ := Aside0.mk (hb); have n3_ := Aside0.mk (hi); clear HO986; clear HK; clear HB; clear HI0; have HO986 := n0_; have HK := n1_; have HB := n2_; have HI0 := n3_; clear n0_ n1_ n2_ n3_; (try clear hb); (try clear hb2); (try clear hk); (try clear hi); have p1003 : 0 ≤ (1 : Int) := (by omega); have q1003 : 1 < (t984.length : Int) := of_decide_eq_true (by first | (with_reducible assumption) | assumption); obtain ⟨ad1003, e1003, hx1003_0, hx1003_1, hx1003_2, hx1003_3, hx1003_4⟩ := at_T25 (Kd.R_reads' HO986.out).2.2 1 p1003 q1003; cases e1003; (try simp only [show (1 : Int).toNat = 1 from rfl, Nat.reduceMul, Nat.reduceEqDiff, Go.Addr.add, ↓reduceIte] at hx1003_0); (try simp only [show (1 : Int).toNat = 1 from rfl, Nat.reduceMul, Nat.reduceEqDiff, Go.Addr.add, ↓reduceIte] at hx1003_1); (try simp only [show (1 : Int).toNat = 1 from rfl, Nat.reduceMul, Nat.reduceEqDiff, Go.Addr.add, ↓reduceIte] at hx1003_2); (try simp only [show (1 : Int).toNat = 1 from rfl, Nat.reduceMul, Nat.reduceEqDiff, Go.Addr.add, ↓reduceIte] at hx1003_3); (try simp only [show (1 : Int).toNat = 1 from rfl, Nat.reduceMul, Nat.reduceEqDiff, Go.Addr.add, ↓reduceIte] at hx1003_4); have qi1003 : (1 < t984.length) = True := eq_true (by omega); (try rw [show ((1 : Int)).toNat = 1 from rfl] at hx1003_0); (try rw [show 1 * 5 = 5 from rfl] at hx1003_0); (try rw [show ((1 : Int)).toNat = 1 from rfl] at hx1003_1); (try rw [show 1 * 5 = 5 from rfl] at hx1003_1); (try rw [show ((1 : Int)).toNat = 1 from rfl] at hx1003_2); (try rw [show 1 * 5 = 5 from rfl] at hx1003_2); (try rw [show ((1 : Int)).toNat = 1 from rfl] at hx1003_3); (try rw [show 1 * 5 = 5 from rfl] at hx1003_3); (try rw [show ((1 : Int)).toNat = 1 from rfl] at hx1003_4); (try rw [show 1 * 5 = 5 from rfl] at hx1003_4); replace p1003 := eq_true p1003; replace q1003 := eq_true q1003; have p25 : 0 ≤ (0 : Int) := (by omega); have q25 : (0 : Int) < ((t984.length : Int) : Int) := of_decide_eq_true (by first | (with_reducible assumption) | assumption); have qi25 : (0 < t984.length) = True := eq_true (by omega); obtain ⟨go25, co25, eo25, gb25, gl25, cl25, HG25⟩ := Kd.R_form HO986.out (by omega); (first | cases eo25 | (injection eo25 with ea_ en_ ec_; (first | subst ea_ | (injection ea_ with ea_; subst ea_)); subst ec_; clear en_)); have GB25 := Aside0.mk gb25; have GG25 := Aside0.mk HG25; clear gb25 gl25 HG25; (first | simp only [add_plain] at hx1003_0 | skip); (first | simp only [add_plain] at hx1003_1 | skip); (first | simp only [add_plain] at hx1003_2 | skip); (first | simp only [add_plain] at hx1003_3 | skip); (first | simp only [add_plain] at hx1003_4 | skip); obtain ⟨ce25, hcl25, hM25, hcc25, hfr25⟩ := Kd.R_elem HO986.out z25 (0 : Int) p25 q25; obtain rfl := k25_openM hM25; have hx25_0 : w28.cell? ⟨go25, (0 : Int).toNat * 5, none⟩ = some (.int .i64 ((rd_T25 t984 0).f0)) := hcc25 0 _ rfl; have hx25_1 : w28.cell? ⟨go25, (0 : Int).toNat * 5 + 1, none⟩ = some (.int .i64 ((rd_T25 t984 0).f1)) := hcc25 1 _ rfl; have hx25_2 : w28.cell? ⟨go25, (0 : Int).toNat * 5 + 2, none⟩ = some (.int .i64 ((rd_T25 t984 0).f2)) := hcc25 2 _ rfl; have hx25_3 : w28.cell? ⟨go25, (0 : Int).toNat * 5 + 3, none⟩ = some (.int .i64 ((rd_T25 t984 0).f3)) := hcc25 3 _ rfl; have hx25_4 : w28.cell? ⟨go25, (0 : Int).toNat * 5 + 4, none⟩ = some (.int .i64 ((rd_T25 t984 0).f4)) := hcc25 4 _ rfl; have hf25_0 : w28.frozen? ⟨go25, (0 : Int).toNat * 5, none⟩ = false := hfr25 0; have hf25_1 : w28.frozen? ⟨go25, (0 : Int).toNat * 5 + 1, none⟩ = false := hfr25 1; have hf25_2 : w28.frozen? ⟨go25, (0 : Int).toNat * 5 + 2, none⟩ = false := hfr25 2; have hf25_3 : w28.frozen? ⟨go25, (0 : Int).toNat * 5 + 3, none⟩ = false := hfr25 3; have hf25_4 : w28.frozen? ⟨go25, (0 : Int).toNat * 5 + 4, none⟩ = false := hfr25 4; clear hcl25 hcc25 hfr25 hM25; (try rw [show ((0 : Int)).toNat = 0 from rfl] at hx25_0); (try simp only [Nat.reduceMul, Nat.zero_mul, Nat.zero_add, Nat.reduceAdd] at hx25_0); (try rw [show ((0 : Int)).toNat = 0 from rfl] at hf25_0); (try simp only [Nat.reduceMul, Nat.zero_mul, Nat.zero_add, Nat.reduceAdd] at hf25_0); (try rw [show ((0 : Int)).toNat = 0 from rfl] at hx25_1); (try simp only [Nat.reduceMul, Nat.zero_mul, Nat.zero_add, Nat.reduceAdd] at hx25_1); (try rw [show ((0 : Int)).toNat = 0 from rfl] at hf25_1); (try simp only [Nat.reduceMul, Nat.zero_mul, Nat.zero_add, Nat.reduceAdd] at hf25_1); (try rw [show ((0 : Int)).toNat = 0 from rfl] at hx25_2); (try simp only [Nat.reduceMul, Nat.zero_mul, Nat.zero_add, Nat.reduceAdd] at hx25_2); (try rw [show ((0 : Int)).toNat = 0 from rfl] at hf25_2); (try simp only [Nat.reduceMul, Nat.zero_mul, Nat.zero_add, Nat.reduceAdd] at hf25_2); (try rw [show ((0 : Int)).toNat = 0 from rfl] at hx25_3); (try simp only [Nat.reduceMul, Nat.zero_mul, Nat.zero_add, Nat.reduceAdd] at hx25_3); (try rw [show ((0 : Int)).toNat = 0 from rfl] at hf25_3); (try simp only [Nat.reduceMul, Nat.zero_mul, Nat.zero_add, Nat.reduceAdd] at hf25_3); (try rw [show ((0 : Int)).toNat = 0 from rfl] at hx25_4); (try simp only [Nat.reduceMul, Nat.zero_mul, Nat.zero_add, Nat.reduceAdd] at hx25_4); (try rw [show ((0 : Int)).toNat = 0 from rfl] at hf25_4); (try simp only [Nat.reduceMul, Nat.zero_mul, Nat.zero_add, Nat.reduceAdd] at hf25_4); replace p25 := eq_true p25; replace q25 := eq_true q25; have HX29 := Aside0.mk (show Kd.R k25 25 w28 w.heap.size (fun _ => True) (.slice (some ⟨go25, 0, none⟩) t984.length co27) t984 from (by (with_reducible repeat (first | apply Kd.R_alloc | apply Kd.R_drewN | apply Kd.R_drew)); exact HO986.out)); obtain ⟨ce29, hcl29, hM29, hcc29, hfr29⟩ := Kd.R_elem HX29.out z25 (0 : Int) (by omega) (by have h_ : (0 : Int) < ((t984.length : Int) : Int) := of_decide_eq_true (by first | (with_reducible assumption) | assumption); first | exact h_ | (have e_ := (Kd.R_reads' HO986.out).1; omega) | simpa using h_); obtain rfl := k25_openM hM29; have HP29 := Kd.R_seg HX29.out (0 : Int) (by omega) (by have h_ : (0 : Int) < ((t984.length : Int) : Int) := of_decide_eq_true (by first | (with_reducible assumption) | assumption); first | exact h_ | (have e_ := (Kd.R_reads' HO986.out).1; omega) | simpa using h_) (seg := [.int .i64 ((rd_T25 t984 1).f0)]) (j := 0) hcl29 hcc29 (show 1 ≤ 5 from by decide) (x' := (⟨(rd_T25 t984 1).f0, (rd_T25 t984 0).f1, (rd_T25 t984 0).f2, (rd_T25 t984 0).f3, (rd_T25 t984 0).f4⟩ : S25)) (k25_mkM _ _ _ (⟨(rd_T25 t984 1).f0, (rd_T25 t984 0).f1, (rd_T25 t984 0).f2, (rd_T25 t984 0).f3, (rd_T25 t984 0).f4⟩ : S25) ) (fun _ hk => hk); have hx29_0 := hcc29 0 _ rfl; (try simp only [show (k25).sz = 5 from rfl, Nat.mul_one, Nat.add_zero] at hx29_0); (try rw [show ((0 : Int)).toNat = 0 from rfl] at hx29_0); (try simp only [Nat.reduceMul, Nat.zero_mul, Nat.zero_add, Nat.reduceAdd] at hx29_0); have hf29_0 := hfr29 0; (try simp only [show (k25).sz = 5 from rfl, Nat.mul_one, Nat.add_zero] at hf29_0); (try rw [show ((0 : Int)).toNat = 0 from rfl] at hf29_0); (try simp only [Nat.reduceMul, Nat.zero_mul, Nat.zero_add, Nat.reduceAdd] at hf29_0); clear hcl29 hcc29 hfr29 hM29) | ((with_reducible refine gate_store (t := 3) (p := 32) rfl ?_); refine store_event (t := 3) (p := 32) (v := ?vo_w30) (w1 := (w28.setCell ⟨go25, 0, none⟩ (.int .i64 ((rd_T25 t984 1).f0)))) ?hg ?ho ?hn ?hr ?_; (case ho => rfl); (case hg => rfl); (case hn => rfl); (case hr => first | (go_simp; done) | (go_simp; rfl)); intro w30 hw; have hg : w28.grownBy w30 (some go25) := (by rw [hw]; exact HP29.2); have hp_ : Kd.R k25 25 w30 w.heap.size (fun _ => True) (.slice (some ⟨go25, 0, none⟩) t984.length co27) y1004 := (by rw [hw, Ny1004.out]; exact HP29.1); clear HP29; have n0_ := Aside0.mk (IsS98.grown (by repeat (first | (with_reducible first | exact HI0.out | apply IsS98.alloc | apply IsS98.drewN | apply IsS98.drew | apply IsS98.set_1 | apply IsS98.set_2) | exact HI0.out)) hg (IsS98.own_ne HI0.out HO986.out (by decide))); have n1_ := Aside0.mk (hp_); have n2_ := Aside0.mk ((by rw [hw]; exact below_set (HB.out) (Nat.le_trans HL.out GB25.out) : Below w0.heap.size w0 w30)); have n3_ := Aside0.mk (KeepBut.trans (by repeat (first | (with_reducible first | exact HK.out | apply KeepBut.set_ | apply keep_drewN | apply keep_drew | apply keep_alloc) | exact HK.out)) (KeepBut.of_grown hg g) (Kd.R_base2 HO986.out)); clear HI0; clear HO986; clear HB; clear HK; have HI0 := n0_; have HO986 := n1_; have HB := n2_; have HK := n3_; clear n0_ n1_ n2_ n3_; clear hg hw hp_))
      go_ret
      exact ⟨_, rfl, by exact HO986.out, by repeat (first | exact HI0.out | apply IsS98.set_1 | apply IsS98.set_2), by repeat (first | exact HB.out | refine below_set ?_ (IsS98.ge HI0.out)), by repeat (first | exact HK.out | apply KeepBut.set_)⟩
     ·
      rw [if_neg c24] at H
      exact absurd H (by simp)
    ·
     rw [if_neg c23] at H
     exact absurd H (by simp)
   ·
    rw [if_neg c22] at H
    have c22b0 : decide (1 < (t984.length : Int)) = false := decide_eq_false c22
    have c22b1 : decide (1 < t984.length) = false := decide_eq_false (by omega)
    clear c22
    simp only [Option.some.injEq, Prod.mk.injEq] at H
    obtain ⟨rfl, rfl, rfl⟩ := H
    go_enter Try.func88, Try.ntmps88
    go_wp2_with (first | ((with_reducible refine gate_callee (f := 85) rfl ?_); refine goesL_ (some 6) rfl rfl Try.func85 (by kernel_rfl) rfl #[.pointer (some ⟨g, 0, none⟩)] rfl (by (try simp only [List.map_toArray, List.map_cons, List.map_nil]); first | done | rfl | (simp only [List.length_drop, List.length_take]; rfl)) ?_; (with_reducible refine (spec_l08Notes.calls k g s0_0 s0_1 s0_2 t984 t987 t988 w0 _ ?side1 ?side2 A2.out).mono ?_); (case side1 => repeat (first | (with_reducible first | exact HI0.out | apply IsS98.alloc | apply IsS98.drewN | apply IsS98.drew | apply IsS98.set_1 | apply IsS98.set_2) | exact HI0.out)); (case side2 => repeat (first | (with_reducible first | exact HB.out | apply below_alloc | apply pw_below_drewN | apply below_drew1 | refine below_set ?_ (IsS98.ge HI0.out)) | exact HB.out)); rintro e w31 ⟨v985, rfl, ho0, hi, hb, hk⟩; refine ⟨_, rfl, ?_⟩; have n0_ := Aside0.mk (Kd.R_lower ho0 (keep_size (w := w) (g := g) (row := none) (by repeat (first | (with_reducible first | exact HK.out | apply KeepBut.set_ | apply keep_drewN | apply keep_drew | apply keep_alloc) | exact HK.out)))); have n1_ := Aside0.mk (KeepBut.trans (by repeat (first | (with_reducible first | exact HK.out | apply KeepBut.set_ | apply keep_drewN | apply keep_drew | apply keep_alloc) | exact HK.out)) hk (.inl rfl)); have n2_ := Aside0.mk (hb); have n3_ := Aside0.mk (hi); clear HK; clear HB; clear HI0; have HO986 := n0_; have HK := n1_; have HB := n2_; have HI0 := n3_; clear n0_ n1_ n2_ n3_; (try clear hb); (try clear hb2); (try clear hk); (try clear hi); (try clear ho0); obtain ⟨Ao32, co32, eo32⟩ := Kd.R_slice HO986.out; subst eo32) | ((with_reducible refine gate_callee (f := 87) rfl ?_); refine goesL_ (some 10) rfl rfl Try.func87 (by kernel_rfl) rfl #[.pointer (some ⟨g, 0, none⟩), .int .i64 18] rfl (by (try simp only [List.map_toArray, List.map_cons, List.map_nil]); first | done | rfl | (simp only [List.length_drop, List.length_take]; rfl)) ?_; (with_reducible refine (spec_l01Below.calls g s0_0 t987 t988 18 t989 t990 t991 w0 _ ?side1 ?side2 A3.out).mono ?_); (case side1 => repeat (first | (with_reducible first | exact HI0.out | apply IsS98.alloc | apply IsS98.drewN | apply IsS98.drew | apply IsS98.set_1 | apply IsS98.set_2) | exact HI0.out)); (case side2 => repeat (first | (with_reducible first | exact HB.out | apply below_alloc | apply pw_below_drewN | apply below_drew1 | refine below_set ?_ (IsS98.ge HI0.out)) | exact HB.out)); rintro e w33 ⟨rfl, hi, hb, hk⟩; refine ⟨_, rfl, ?_⟩; have n0_ := Aside0.mk (Kd.R_mono (Kd.R_keep (IsS98.apart (show IsS98 w0 _ g s0_0 t987 t988 from by repeat (first | (with_reducible first | exact HI0.out | apply IsS98.alloc | apply IsS98.drewN | apply IsS98.drew | apply IsS98.set_1 | apply IsS98.set_2) | exact HI0.out)) (by (with_reducible repeat (first | apply Kd.R_alloc | apply Kd.R_drewN | apply Kd.R_drew)); exact HO986.out) (by decide)) hk (fun _ h => h.2)) (fun _ h => h.1)); have n1_ := Aside0.mk (KeepBut.trans (by repeat (first | (with_reducible first | exact HK.out | apply KeepBut.set_ | apply keep_drewN | apply keep_drew | apply keep_alloc) | exact HK.out)) hk (.inl rfl)); have n2_ := Aside0.mk (hb); have n3_ := Aside0.mk (hi); clear HO986; clear HK; clear HB; clear HI0; have HO986 := n0_; have HK := n1_; have HB := n2_; have HI0 := n3_; clear n0_ n1_ n2_ n3_; (try clear hb); (try clear hb2); (try clear hk); (try clear hi)))
    go_ret
    exact ⟨_, rfl, by exact HO986.out, by repeat (first | exact HI0.out | apply IsS98.set_1 | apply IsS98.set_2), by repeat (first | exact HB.out | refine below_set ?_ (IsS98.ge HI0.out)), by repeat (first | exact HK.out | apply KeepBut.set_)⟩
  ·
   rw [if_neg c21] at H
   have c21b0 : (t989 == 1) = false := beq_eq_false_iff_ne.mpr c21
   have c21b1 : (t989 != 1) = true := bne_iff_ne.mpr c21
   by_cases c34 : t989 = 2
   ·
    rw [if_pos c34] at H
    have c34b0 : (t989 == 2) = true := beq_iff_eq.mpr c34
    have c34b1 : (t989 != 2) = false := bne_eq_false_iff_eq.mpr c34
    clear c34
    have H' := Aside0.mk H
    clear H
    go_enter Try.func88, Try.ntmps88
    go_wp2_with (first | ((with_reducible refine gate_callee (f := 85) rfl ?_); refine goesL_ (some 6) rfl rfl Try.func85 (by kernel_rfl) rfl #[.pointer (some ⟨g, 0, none⟩)] rfl (by (try simp only [List.map_toArray, List.map_cons, List.map_nil]); first | done | rfl | (simp only [List.length_drop, List.length_take]; rfl)) ?_; (with_reducible refine (spec_l08Notes.calls k g s0_0 s0_1 s0_2 t984 t987 t988 w0 _ ?side1 ?side2 A2.out).mono ?_); (case side1 => repeat (first | (with_reducible first | exact HI0.out | apply IsS98.alloc | apply IsS98.drewN | apply IsS98.drew | apply IsS98.set_1 | apply IsS98.set_2) | exact HI0.out)); (case side2 => repeat (first | (with_reducible first | exact HB.out | apply below_alloc | apply pw_below_drewN | apply below_drew1 | refine below_set ?_ (IsS98.ge HI0.out)) | exact HB.out)); rintro e w35 ⟨v985, rfl, ho0, hi, hb, hk⟩; refine ⟨_, rfl, ?_⟩; have n0_ := Aside0.mk (Kd.R_lower ho0 (keep_size (w := w) (g := g) (row := none) (by repeat (first | (with_reducible first | exact HK.out | apply KeepBut.set_ | apply keep_drewN | apply keep_drew | apply keep_alloc) | exact HK.out)))); have n1_ := Aside0.mk (KeepBut.trans (by repeat (first | (with_reducible first | exact HK.out | apply KeepBut.set_ | apply keep_drewN | apply keep_drew | apply keep_alloc) | exact HK.out)) hk (.inl rfl)); have n2_ := Aside0.mk (hb); have n3_ := Aside0.mk (hi); clear HK; clear HB; clear HI0; have HO986 := n0_; have HK := n1_; have HB := n2_; have HI0 := n3_; clear n0_ n1_ n2_ n3_; (try clear hb); (try clear hb2); (try clear hk); (try clear hi); (try clear ho0); obtain ⟨Ao36, co36, eo36⟩ := Kd.R_slice HO986.out; subst eo36) | ((with_reducible refine gate_callee (f := 87) rfl ?_); refine goesL_ (some 10) rfl rfl Try.func87 (by kernel_rfl) rfl #[.pointer (some ⟨g, 0, none⟩), .int .i64 18] rfl (by (try simp only [List.map_toArray, List.map_cons, List.map_nil]); first | done | rfl | (simp only [List.length_drop, List.length_take]; rfl)) ?_; (with_reducible refine (spec_l01Below.calls g s0_0 t987 t988 18 t989 t990 t991 w0 _ ?side1 ?side2 A3.out).mono ?_); (case side1 => repeat (first | (with_reducible first | exact HI0.out | apply IsS98.alloc | apply IsS98.drewN | apply IsS98.drew | apply IsS98.set_1 | apply IsS98.set_2) | exact HI0.out)); (case side2 => repeat (first | (with_reducible first | exact HB.out | apply below_alloc | apply pw_below_drewN | apply below_drew1 | refine below_set ?_ (IsS98.ge HI0.out)) | exact HB.out)); rintro e w37 ⟨rfl, hi, hb, hk⟩; refine ⟨_, rfl, ?_⟩; have n0_ := Aside0.mk (Kd.R_mono (Kd.R_keep (IsS98.apart (show IsS98 w0 _ g s0_0 t987 t988 from by repeat (first | (with_reducible first | exact HI0.out | apply IsS98.alloc | apply IsS98.drewN | apply IsS98.drew | apply IsS98.set_1 | apply IsS98.set_2) | exact HI0.out)) (by (with_reducible repeat (first | apply Kd.R_alloc | apply Kd.R_drewN | apply Kd.R_drew)); exact HO986.out) (by decide)) hk (fun _ h => h.2)) (fun _ h => h.1)); have n1_ := Aside0.mk (KeepBut.trans (by repeat (first | (with_reducible first | exact HK.out | apply KeepBut.set_ | apply keep_drewN | apply keep_drew | apply keep_alloc) | exact HK.out)) hk (.inl rfl)); have n2_ := Aside0.mk (hb); have n3_ := Aside0.mk (hi); clear HO986; clear HK; clear HB; clear HI0; have HO986 := n0_; have HK := n1_; have HB := n2_; have HI0 := n3_; clear n0_ n1_ n2_ n3_; (try clear hb); (try clear hb2); (try clear hk); (try clear hi)))
    (try simp only [Act.put, List.setIfInBounds_toArray, List.set_cons_zero, List.set_cons_succ])
    go_loopg [3] k (fun kq v3 w' => ∃ (x3_1 : List (S25)) (x1001_1 : Int) (x1002_1 : Int), Aside0 (spec_l08Any.l0 kq x3_1 s0_0 x1001_1 x1002_1 = some (r1, r2, r3)) ∧ Aside0 (kq ≤ k) ∧ Aside0 (Kd.R k25 25 w' w.heap.size (fun _ => True) v3 x3_1) ∧ Aside0 (IsS98 w0 w' g s0_0 x1001_1 x1002_1) ∧ Aside0 (KeepBut w w' g none) ∧ Aside0 (Below w0.heap.size w0 w'))
    case atStart => exact ⟨(t984), (t990), (t991), H', ⟨Nat.le_refl _⟩, ⟨HO986.out⟩, ⟨by repeat (first | exact HI0.out | apply IsS98.set_1 | apply IsS98.set_2)⟩, ⟨by repeat (first | exact HK.out | apply KeepBut.set_)⟩, ⟨by repeat (first | exact HB.out | refine below_set ?_ (IsS98.ge HI0.out))⟩⟩
    case round =>
     clear H'
     try clear c1
     try clear p1
     try clear q1
     try clear hx1
     try clear qi1
     try clear hf1
     try clear c2
     try clear p2
     try clear q2
     try clear hx2
     try clear qi2
     try clear hf2
     try clear c3
     try clear c4
     try clear c4b0
     try clear c4b1
     try clear c5
     try clear c5b0
     try clear c5b1
     try clear c8
     try clear c8b0
     try clear c9
     try clear c9b0
     try clear c10
     try clear p10
     try clear q10
     try clear hx10
     try clear qi10
     try clear hf10
     try clear c16
     try clear hx16
     try clear hf16
     try clear c21
     try clear c21b0
     try clear c21b1
     try clear c22
     try clear c22b0
     try clear c22b1
     try clear c23
     try clear c23b0
     try clear c23b1
     try clear c24
     try clear c24b0
     try clear c24b1
     try clear c25
     try clear p25
     try clear q25
     try clear hx25
     try clear qi25
     try clear hf25
     try clear c29
     try clear hx29
     try clear hf29
     try clear c34
     try clear c34b0
     try clear c34b1
     try clear hx1003_0
     try clear hx1003_1
     try clear hx1003_2
     try clear hx1003_3
     try clear hx1003_4
     try clear hx10_0
     try clear hx10_1
     try clear hx10_2
     try clear hx10_3
     try clear hx10_4
     try clear hx16_0
     try clear hx16_1
     try clear hx16_2
     try clear hx16_3
     try clear hx16_4
     try clear hx25_0
     try clear hx25_1
     try clear hx25_2
     try clear hx25_3
     try clear hx25_4
     try clear hx29_0
     try clear p10
     try clear p1003
     try clear p25
     try clear q10
     try clear q1003
     try clear q25
     obtain ⟨x3_1, x1001_1, x1002_1, HA, HK1, HO_3, HI0, HK, HB⟩ := hrel
     cases gk with
     | zero => exact absurd HA.out (by simp [spec_l08Any.l0])
     | succ k1 =>
      have H := HA.out
      clear HA
      simp only [spec_l08Any.l0] at H
      replace H := Option.bind_eq_some_iff.mp H
      obtain ⟨⟨t1005, t1006, t1007⟩, A380, H⟩ := H
      replace H : (if (x3_1.length : Int) < (wrap64 (60 + t1005)) then (if x3_1.length < 3518437208883 then (spec_l08Any.l0 k1 (x3_1 ++ [(⟨wrap64 (30 + (x3_1.length : Int)), 2, 1, 0, 1⟩ : S25)]) s0_0 t1006 t1007) else (none)) else (some (x3_1, t1006, t1007))) = some (r1, r2, r3) := H
      have A38 := Aside0.mk A380
      clear A380
      by_cases c39 : (x3_1.length : Int) < (wrap64 (60 + t1005))
      ·
       rw [if_pos c39] at H
       have c39b0 : decide ((x3_1.length : Int) < (wrap64 (60 + t1005))) = true := decide_eq_true c39
       clear c39
       by_cases c40 : x3_1.length < 3518437208883
       ·
        rw [if_pos c40] at H
        have LMc40 := Aside0.mk c40
        clear c40
        obtain ⟨y1008, hy1008⟩ : ∃ y_ : List (S25), y_ = (x3_1 ++ [(⟨wrap64 (30 + (x3_1.length : Int)), 2, 1, 0, 1⟩ : S25)]) := ⟨_, rfl⟩
        replace H : (spec_l08Any.l0 k1 y1008 s0_0 t1006 t1007) = some (r1, r2, r3) := by rw [hy1008]; exact H
        have Ny1008 := Aside0.mk hy1008
        clear hy1008
        have H' := Aside0.mk H
        clear H
        obtain ⟨Ao41, co41, eo41⟩ := Kd.R_slice HO_3.out
        subst eo41
        go_wp2_with (first | ((with_reducible refine gate_callee (f := 87) rfl ?_); refine goesL_ (some 38) rfl rfl Try.func87 (by kernel_rfl) rfl #[.pointer (some ⟨g, 0, none⟩), .int .i64 2] rfl (by (try simp only [List.map_toArray, List.map_cons, List.map_nil]); first | done | rfl | (simp only [List.length_drop, List.length_take]; rfl)) ?_; (with_reducible refine (spec_l01Below.calls g s0_0 x1001_1 x1002_1 2 t1005 t1006 t1007 w0 _ ?side1 ?side2 A38.out).mono ?_); (case side1 => repeat (first | (with_reducible first | exact HI0.out | apply IsS98.alloc | apply IsS98.drewN | apply IsS98.drew | apply IsS98.set_1 | apply IsS98.set_2) | exact HI0.out)); (case side2 => repeat (first | (with_reducible first | exact HB.out | apply below_alloc | apply pw_below_drewN | apply below_drew1 | refine below_set ?_ (IsS98.ge HI0.out)) | exact HB.out)); rintro e w42 ⟨rfl, hi, hb, hk⟩; refine ⟨_, rfl, ?_⟩; have n0_ := Aside0.mk (Kd.R_mono (Kd.R_keep (IsS98.apart (show IsS98 w0 _ g s0_0 x1001_1 x1002_1 from by repeat (first | (with_reducible first | exact HI0.out | apply IsS98.alloc | apply IsS98.drewN | apply IsS98.drew | apply IsS98.set_1 | apply IsS98.set_2) | exact HI0.out)) (by (with_reducible repeat (first | apply Kd.R_alloc | apply Kd.R_drewN | apply Kd.R_drew)); exact HO_3.out) (by decide)) hk (fun _ h => h.2)) (fun _ h => h.1)); have n1_ := Aside0.mk (KeepBut.trans (by repeat (first | (with_reducible first | exact HK.out | apply KeepBut.set_ | apply keep_drewN | apply keep_drew | apply keep_alloc) | exact HK.out)) hk (.inl rfl)); have n2_ := Aside0.mk (hb); have n3_ := Aside0.mk (hi); clear HO_3; clear HK; clear HB; clear HI0; have HO_3 := n0_; have HK := n1_; have HB := n2_; have HI0 := n3_; clear n0_ n1_ n2_ n3_; (try clear hb); (try clear hb2); (try clear hk); (try clear hi)) | ((with_reducible refine gate_builtin (b := .append) (xs := #[.tmp 41, .tmp 46]) rfl ?_); at_builtin; refine Kd.R_append k25 w.heap.size rfl (.tmp 41) (.tmp 46) 31 25 (.agg #[(.int .i64 0), (.int .i64 0), (.int .i64 0), (.int .i64 0), (.int .i64 0)]) 40 rfl Try.underlying31 info25 rfl (by decide) (by omega) (.slice Ao41 x3_1.length co41) x3_1 (⟨wrap64 (30 + (x3_1.length : Int)), 2, 1, 0, 1⟩ : S25) [.int .i64 (wrap64 (30 + (x3_1.length : Int))), .int .i64 2, .int .i64 1, .int .i64 0, .int .i64 1] (fun _ => True) (fun _ => False) rfl rfl ?aP (fun _ hk => hk.elim) ?aF ?aO (Below.refl _ _) ?aS ?aL ?_; (case aP => exact k25_mkM _ _ _ (⟨wrap64 (30 + (x3_1.length : Int)), 2, 1, 0, 1⟩ : S25)); (case aF => exact (fun _ _ => trivial)); (case aO => exact (by (with_reducible repeat (first | apply Kd.R_alloc | apply Kd.R_drewN | apply Kd.R_drew)); exact HO_3.out)); (case aS => exact (keep_size (w := w) (g := g) (row := none) (by repeat (first | (with_reducible first | exact HK.out | apply KeepBut.set_ | apply keep_drewN | apply keep_drew | apply keep_alloc) | exact HK.out)))); (case aL => have := LMc40.out; omega); intro v1009 w43 ho hb hg hat; rw [← Ny1008.out] at ho; have n0_ := Aside0.mk (IsS98.grown (by repeat (first | (with_reducible first | exact HI0.out | apply IsS98.alloc | apply IsS98.drewN | apply IsS98.drew | apply IsS98.set_1 | apply IsS98.set_2) | exact HI0.out)) hg (IsS98.own_ne HI0.out HO_3.out (by decide))); have n1_ := Aside0.mk (below_weaken (by repeat (first | (with_reducible first | exact HB.out | apply below_alloc | apply pw_below_drewN | apply below_drew1 | refine below_set ?_ (IsS98.ge HI0.out)) | exact HB.out)) HL.out hb); have n2_ := Aside0.mk (KeepBut.trans (by repeat (first | (with_reducible first | exact HK.out | apply KeepBut.set_ | apply keep_drewN | apply keep_drew | apply keep_alloc) | exact HK.out)) (KeepBut.of_grown hg g) (Kd.R_base2 HO_3.out)); have n3_ := Aside0.mk (ho); clear HI0; clear HB; clear HK; clear HO_3; have HI0 := n0_; have HB := n1_; have HK := n2_; have HO1010 := n3_; clear n0_ n1_ n2_ n3_; clear ho hb hg hat))
        go_roundg k1
        case measure => have := HK1.out; omega
        case rel => exact ⟨(y1008), (t1006), (t1007), H', ⟨by have := HK1.out; omega⟩, ⟨HO1010.out⟩, ⟨by repeat (first | exact HI0.out | apply IsS98.set_1 | apply IsS98.set_2)⟩, ⟨by repeat (first | exact HK.out | apply KeepBut.set_)⟩, ⟨by repeat (first | exact HB.out | refine below_set ?_ (IsS98.ge HI0.out))⟩⟩
       ·
        rw [if_neg c40] at H
        exact absurd H (by simp)
      ·
       rw [if_neg c39] at H
       have c39b0 : decide ((x3_1.length : Int) < (wrap64 (60 + t1005))) = false := decide_eq_false c39
       clear c39
       simp only [Option.some.injEq, Prod.mk.injEq] at H
       obtain ⟨rfl, rfl, rfl⟩ := H
       obtain ⟨Ao44, co44, eo44⟩ := Kd.R_slice HO_3.out
       subst eo44
       go_wp2_with (first | ((with_reducible refine gate_callee (f := 87) rfl ?_); refine goesL_ (some 38) rfl rfl Try.func87 (by kernel_rfl) rfl #[.pointer (some ⟨g, 0, none⟩), .int .i64 2] rfl (by (try simp only [List.map_toArray, List.map_cons, List.map_nil]); first | done | rfl | (simp only [List.length_drop, List.length_take]; rfl)) ?_; (with_reducible refine (spec_l01Below.calls g s0_0 x1001_1 x1002_1 2 t1005 t1006 t1007 w0 _ ?side1 ?side2 A38.out).mono ?_); (case side1 => repeat (first | (with_reducible first | exact HI0.out | apply IsS98.alloc | apply IsS98.drewN | apply IsS98.drew | apply IsS98.set_1 | apply IsS98.set_2) | exact HI0.out)); (case side2 => repeat (first | (with_reducible first | exact HB.out | apply below_alloc | apply pw_below_drewN | apply below_drew1 | refine below_set ?_ (IsS98.ge HI0.out)) | exact HB.out)); rintro e w45 ⟨rfl, hi, hb, hk⟩; refine ⟨_, rfl, ?_⟩; have n0_ := Aside0.mk (Kd.R_mono (Kd.R_keep (IsS98.apart (show IsS98 w0 _ g s0_0 x1001_1 x1002_1 from by repeat (first | (with_reducible first | exact HI0.out | apply IsS98.alloc | apply IsS98.drewN | apply IsS98.drew | apply IsS98.set_1 | apply IsS98.set_2) | exact HI0.out)) (by (with_reducible repeat (first | apply Kd.R_alloc | apply Kd.R_drewN | apply Kd.R_drew)); exact HO_3.out) (by decide)) hk (fun _ h => h.2)) (fun _ h => h.1)); have n1_ := Aside0.mk (KeepBut.trans (by repeat (first | (with_reducible first | exact HK.out | apply KeepBut.set_ | apply keep_drewN | apply keep_drew | apply keep_alloc) | exact HK.out)) hk (.inl rfl)); have n2_ := Aside0.mk (hb); have n3_ := Aside0.mk (hi); clear HO_3; clear HK; clear HB; clear HI0; have HO_3 := n0_; have HK := n1_; have HB := n2_; have HI0 := n3_; clear n0_ n1_ n2_ n3_; (try clear hb); (try clear hb2); (try clear hk); (try clear hi)))
       go_ret
       exact ⟨_, rfl, by exact HO_3.out, by repeat (first | exact HI0.out | apply IsS98.set_1 | apply IsS98.set_2), by repeat (first | exact HB.out | refine below_set ?_ (IsS98.ge HI0.out)), by repeat (first | exact HK.out | apply KeepBut.set_)⟩
   ·
    rw [if_neg c34] at H
    have c34b0 : (t989 == 2) = false := beq_eq_false_iff_ne.mpr c34
    have c34b1 : (t989 != 2) = true := bne_iff_ne.mpr c34
    simp only [Option.some.injEq, Prod.mk.injEq] at H
    obtain ⟨rfl, rfl, rfl⟩ := H
    go_enter Try.func88, Try.ntmps88
    go_wp2_with (first | ((with_reducible refine gate_callee (f := 85) rfl ?_); refine goesL_ (some 6) rfl rfl Try.func85 (by kernel_rfl) rfl #[.pointer (some ⟨g, 0, none⟩)] rfl (by (try simp only [List.map_toArray, List.map_cons, List.map_nil]); first | done | rfl | (simp only [List.length_drop, List.length_take]; rfl)) ?_; (with_reducible refine (spec_l08Notes.calls k g s0_0 s0_1 s0_2 t984 t987 t988 w0 _ ?side1 ?side2 A2.out).mono ?_); (case side1 => repeat (first | (with_reducible first | exact HI0.out | apply IsS98.alloc | apply IsS98.drewN | apply IsS98.drew | apply IsS98.set_1 | apply IsS98.set_2) | exact HI0.out)); (case side2 => repeat (first | (with_reducible first | exact HB.out | apply below_alloc | apply pw_below_drewN | apply below_drew1 | refine below_set ?_ (IsS98.ge HI0.out)) | exact HB.out)); rintro e w46 ⟨v985, rfl, ho0, hi, hb, hk⟩; refine ⟨_, rfl, ?_⟩; have n0_ := Aside0.mk (Kd.R_lower ho0 (keep_size (w := w) (g := g) (row := none) (by repeat (first | (with_reducible first | exact HK.out | apply KeepBut.set_ | apply keep_drewN | apply keep_drew | apply keep_alloc) | exact HK.out)))); have n1_ := Aside0.mk (KeepBut.trans (by repeat (first | (with_reducible first | exact HK.out | apply KeepBut.set_ | apply keep_drewN | apply keep_drew | apply keep_alloc) | exact HK.out)) hk (.inl rfl)); have n2_ := Aside0.mk (hb); have n3_ := Aside0.mk (hi); clear HK; clear HB; clear HI0; have HO986 := n0_; have HK := n1_; have HB := n2_; have HI0 := n3_; clear n0_ n1_ n2_ n3_; (try clear hb); (try clear hb2); (try clear hk); (try clear hi); (try clear ho0); obtain ⟨Ao47, co47, eo47⟩ := Kd.R_slice HO986.out; subst eo47) | ((with_reducible refine gate_callee (f := 87) rfl ?_); refine goesL_ (some 10) rfl rfl Try.func87 (by kernel_rfl) rfl #[.pointer (some ⟨g, 0, none⟩), .int .i64 18] rfl (by (try simp only [List.map_toArray, List.map_cons, List.map_nil]); first | done | rfl | (simp only [List.length_drop, List.length_take]; rfl)) ?_; (with_reducible refine (spec_l01Below.calls g s0_0 t987 t988 18 t989 t990 t991 w0 _ ?side1 ?side2 A3.out).mono ?_); (case side1 => repeat (first | (with_reducible first | exact HI0.out | apply IsS98.alloc | apply IsS98.drewN | apply IsS98.drew | apply IsS98.set_1 | apply IsS98.set_2) | exact HI0.out)); (case side2 => repeat (first | (with_reducible first | exact HB.out | apply below_alloc | apply pw_below_drewN | apply below_drew1 | refine below_set ?_ (IsS98.ge HI0.out)) | exact HB.out)); rintro e w48 ⟨rfl, hi, hb, hk⟩; refine ⟨_, rfl, ?_⟩; have n0_ := Aside0.mk (Kd.R_mono (Kd.R_keep (IsS98.apart (show IsS98 w0 _ g s0_0 t987 t988 from by repeat (first | (with_reducible first | exact HI0.out | apply IsS98.alloc | apply IsS98.drewN | apply IsS98.drew | apply IsS98.set_1 | apply IsS98.set_2) | exact HI0.out)) (by (with_reducible repeat (first | apply Kd.R_alloc | apply Kd.R_drewN | apply Kd.R_drew)); exact HO986.out) (by decide)) hk (fun _ h => h.2)) (fun _ h => h.1)); have n1_ := Aside0.mk (KeepBut.trans (by repeat (first | (with_reducible first | exact HK.out | apply KeepBut.set_ | apply keep_drewN | apply keep_drew | apply keep_alloc) | exact HK.out)) hk (.inl rfl)); have n2_ := Aside0.mk (hb); have n3_ := Aside0.mk (hi); clear HO986; clear HK; clear HB; clear HI0; have HO986 := n0_; have HK := n1_; have HB := n2_; have HI0 := n3_; clear n0_ n1_ n2_ n3_; (try clear hb); (try clear hb2); (try clear hk); (try clear hi)))
    go_ret
    exact ⟨_, rfl, by exact HO986.out, by repeat (first | exact HI0.out | apply IsS98.set_1 | apply IsS98.set_2), by repeat (first | exact HB.out | refine below_set ?_ (IsS98.ge HI0.out)), by repeat (first | exact HK.out | apply KeepBut.set_)⟩

end Go.Proofs.Ytppojihmllmgnaa.F

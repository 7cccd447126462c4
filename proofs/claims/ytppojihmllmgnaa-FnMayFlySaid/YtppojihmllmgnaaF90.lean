-- PRINTED by print.py (a twelfth state) out of the translation. Not trusted: Lean checks it.
import Derived.Test.YtppojihmllmgnaaF
import Derived.Test.YtppojihmllmgnaaF84
import Derived.Test.YtppojihmllmgnaaF87
import Derived.Test.YtppojihmllmgnaaF100
import Derived.Test.YtppojihmllmgnaaF98
namespace Go.Proofs.Ytppojihmllmgnaa.F
open Go.Proofs.Ytppojihmllmgnaa.Opn
open Go.RowKit Go.Proofs.YtppojihmllmgnaaW.PrintWords Go.Proofs.YtppojihmllmgnaaW.PrintLast
set_option linter.unusedVariables false
set_option linter.unusedSimpArgs false

/-! ### spec_l08AnyNote: function 90 -/
def spec_l08AnyNote.f (s0_0 : List Int) (s0_1 : Int) (s0_2 : Int) : Option (Int × Int × Int × Int × Int × Int × Int) := (spec_l08Note.f s0_0 s0_1 s0_2).bind fun bt1011 => ((spec_l01Below.f s0_0 bt1011.2.2.2.2.2.1 bt1011.2.2.2.2.2.2 20).bind fun bt1019 => (if bt1019.1 = 0 then ((spec_l01PickInt.f s0_0 bt1019.2.1 bt1019.2.2 (([0, 10000, 10001, (-1)] : List Int))).bind fun bt1025 => (some (bt1025.1, bt1011.2.1, bt1011.2.2.1, bt1011.2.2.2.1, bt1011.2.2.2.2.1, bt1025.2.1, bt1025.2.2))) else (if bt1019.1 = 1 then ((spec_l01PickInt.f s0_0 bt1019.2.1 bt1019.2.2 (([0, 5, 2, 4] : List Int))).bind fun bt1031 => (some (bt1011.1, bt1031.1, bt1011.2.2.1, bt1011.2.2.2.1, bt1011.2.2.2.2.1, bt1031.2.1, bt1031.2.2))) else (if bt1019.1 = 2 then ((spec_l01PickInt.f s0_0 bt1019.2.1 bt1019.2.2 (([0, 1000, 1001, 3] : List Int))).bind fun bt1037 => (some (bt1011.1, bt1011.2.1, bt1037.1, bt1011.2.2.2.1, bt1011.2.2.2.2.1, bt1037.2.1, bt1037.2.2))) else (if bt1019.1 = 3 then ((spec_l01PickInt.f s0_0 bt1019.2.1 bt1019.2.2 (([0, 1000, 1001, 2] : List Int))).bind fun bt1043 => (some (bt1011.1, bt1011.2.1, bt1011.2.2.1, bt1043.1, bt1011.2.2.2.2.1, bt1043.2.1, bt1043.2.2))) else (if bt1019.1 = 4 then ((spec_l01PickInt.f s0_0 bt1019.2.1 bt1019.2.2 (([0, 20, 21] : List Int))).bind fun bt1049 => (some (bt1011.1, bt1011.2.1, bt1011.2.2.1, bt1011.2.2.2.1, bt1049.1, bt1049.2.1, bt1049.2.2))) else (some (bt1011.1, bt1011.2.1, bt1011.2.2.1, bt1011.2.2.2.1, bt1011.2.2.2.2.1, bt1019.2.1, bt1019.2.2))))))))
set_option maxHeartbeats 4000000 in
set_option maxRecDepth 100000 in
theorem spec_l08AnyNote.calls (g : Nat) (s0_0 : List Int) (s0_1 : Int) (s0_2 : Int) (r1 : Int) (r2 : Int) (r3 : Int) (r4 : Int) (r5 : Int) (r6 : Int) (r7 : Int) (w0 w : World) (hI : IsS98 w0 w g s0_0 s0_1 s0_2) (hB : Below w0.heap.size w0 w) (h : spec_l08AnyNote.f s0_0 s0_1 s0_2 = some (r1, r2, r3, r4, r5, r6, r7)) :
  Calls Try.prog 90 #[.pointer (some ⟨g, 0, none⟩)] w fun e w' => e = .returned (.agg #[.int .i64 r1, .int .i64 r2, .int .i64 r3, .int .i64 r4, .int .i64 r5]) ∧ IsS98 w0 w' g s0_0 r6 r7 ∧ Below w0.heap.size w0 w' ∧ KeepBut w w' g none := by
 have hu25 := Try.underlying25
 have S0 := Aside0.mk (⟨hI, hB, KeepBut.refl w g none⟩ : spec_l08Note.St w0 w w g s0_0 s0_1 s0_2)
 clear hI hB
 unfold spec_l08AnyNote.f at h
 obtain ⟨⟨t1, t2, t3, t4, t5, a1, b1⟩, A1, h⟩ := Option.bind_eq_some_iff.1 h
 obtain ⟨⟨n, a2, b2⟩, A2, h⟩ := Option.bind_eq_some_iff.1 h
 have H1 := Aside0.mk A1
 have H2 := Aside0.mk A2
 have HH := Aside0.mk h
 clear A1 A2 h
 go_enter Try.func90, Try.ntmps90
 go_upto_region 1 with (first | ((with_reducible refine gate_dst (N := 2) rfl ?_); refine box_event ?hg2 (N := 2) ?hd2 (cs := #[.int .i64 0, .int .i64 0, .int .i64 0, .int .i64 0, .int .i64 0]) (t := 25) ?hr2 ?_; (case hd2 => rfl); (case hg2 => rfl); (case hr2 => first | (go_simp; done) | (go_simp; rfl)); intro gb1 hg w1 hbox hb; have HX2 := Aside0.mk (⟨hg, hbox, hb⟩ : gb1 = _ ∧ _ ∧ _); clear hbox hb hg))
 obtain ⟨hg, hbox, hb⟩ := HX2.out
 have L1 := Aside0.mk (spec_l08Note.Lb.new S0.out hg hbox)
 have S1 := Aside0.mk (S0.out.below hb)
 clear hg hbox hb HX2 S0 
 go_wp2_with fail
 refine (spec_l08Note.calls g s0_0 s0_1 s0_2 t1 t2 t3 t4 t5 a1 b1 w0 w1 S1.out.I S1.out.B H1.out).mono ?_
 rintro e w2 ⟨rfl, hi, hb, hk⟩
 have S2 := Aside0.mk (S1.out.call hi hb hk)
 have L2 := Aside0.mk (L1.out.call hk)
 clear hi hb hk S1 L1 
 go_upto_region 2 with (first | ((with_reducible refine gate_dst (N := 3) rfl ?_); refine box_event ?hg3 (N := 3) ?hd3 (cs := #[.int .i64 0, .int .i64 0, .int .i64 0, .int .i64 0, .int .i64 0]) (t := 25) ?hr3 ?_; (case hd3 => rfl); (case hg3 => rfl); (case hr3 => first | (go_simp; done) | (go_simp; rfl)); intro gb2 hg w3 hbox hb; have HX3 := Aside0.mk (⟨hg, hbox, hb⟩ : gb2 = _ ∧ _ ∧ _); have z0 : w3.cell? ⟨gb2, 0, none⟩ = some (.int .i64 0) := (blk_cell hbox 0).trans rfl; have y0 := blk_frozen hbox 0; have z1 : w3.cell? ⟨gb2, 1, none⟩ = some (.int .i64 0) := (blk_cell hbox 1).trans rfl; have y1 := blk_frozen hbox 1; have z2 : w3.cell? ⟨gb2, 2, none⟩ = some (.int .i64 0) := (blk_cell hbox 2).trans rfl; have y2 := blk_frozen hbox 2; have z3 : w3.cell? ⟨gb2, 3, none⟩ = some (.int .i64 0) := (blk_cell hbox 3).trans rfl; have y3 := blk_frozen hbox 3; have z4 : w3.cell? ⟨gb2, 4, none⟩ = some (.int .i64 0) := (blk_cell hbox 4).trans rfl; have y4 := blk_frozen hbox 4; clear hbox hb hg))
 clear z0 z1 z2 z3 z4 y0 y1 y2 y3 y4
 obtain ⟨hg, hbox, hb⟩ := HX3.out
 have M3 := Aside0.mk (spec_l08Note.Lb.new S2.out hg hbox)
 have HNE := Aside0.mk (by rw [hg]; exact Nat.ne_of_lt (blk_lt L2.out.blk) : gb1 ≠ gb2)
 have L3 := Aside0.mk (L2.out.below hb)
 have S3 := Aside0.mk (S2.out.below hb)
 clear hg hbox hb HX3 S2 L2
 obtain ⟨s_, m_⟩ := spec_l08Note.put S3.out M3.out (t1) (t2) (t3) (t4) (t5)
 have l_ := L3.out.far5 HNE.out (.int .i64 (t1)) (.int .i64 (t2)) (.int .i64 (t3)) (.int .i64 (t4)) (.int .i64 (t5))
 generalize (((((w3.setCell ⟨gb2, 0, none⟩ (.int .i64 (t1))).setCell ⟨gb2, 1, none⟩ (.int .i64 (t2))).setCell ⟨gb2, 2, none⟩ (.int .i64 (t3))).setCell ⟨gb2, 3, none⟩ (.int .i64 (t4))).setCell ⟨gb2, 4, none⟩ (.int .i64 (t5))) = w4 at s_ m_ l_ ⊢
 have S4 := Aside0.mk s_
 have M4 := Aside0.mk m_
 have L4 := Aside0.mk l_
 clear s_ m_ l_ S3 M3 L3
 go_wp2_with fail
 refine (spec_l01Below.calls g s0_0 a1 b1 20 n a2 b2 w0 w4 S4.out.I S4.out.B H2.out).mono ?_
 rintro e w5 ⟨rfl, hi, hb, hk⟩
 have S5 := Aside0.mk (S4.out.call hi hb hk)
 have M5 := Aside0.mk (M4.out.call hk)
 have L5 := Aside0.mk (L4.out.call hk)
 clear hi hb hk S4 M4 L4 
 have h := HH.out
 clear HH
 by_cases q0 : n = 0
 ·
  subst q0
  simp only [if_true] at h
  obtain ⟨⟨x, a3, b3⟩, A3, h⟩ := Option.bind_eq_some_iff.1 h
  have H3 := Aside0.mk A3
  simp only [Option.some.injEq, Prod.mk.injEq] at h
  obtain ⟨rfl, rfl, rfl, rfl, rfl, rfl, rfl⟩ := h
  clear A3
  go_wp2_with (first | ((with_reducible refine gate_dst (N := 11) rfl ?_); refine Kd.R_lit (Kd.int .i64) _ 3 ?hg11 (N := 11) ?hd11 (xs := ([0, 10000, 10001, -1] : List Int)) (inner := [.int .i64 0, .int .i64 10000, .int .i64 10001, .int .i64 (-1)]) (ok := fun _ => True) (okp := fun _ => True) ?hr11 ?hp11 (fun _ hk => hk) trivial (Below.refl _ _) (Nat.le_refl _) (by simp) ?_; (case hd11 => rfl); (case hg11 => rfl); (case hr11 => first | (go_simp; done) | (go_simp; rfl)); (case hp11 => exact (Reps.one (show Kd.M (Kd.int .i64) _ _ _ 0 [.int .i64 0] from rfl) (Reps.one (show Kd.M (Kd.int .i64) _ _ _ 10000 [.int .i64 10000] from rfl) (Reps.one (show Kd.M (Kd.int .i64) _ _ _ 10001 [.int .i64 10001] from rfl) (Reps.one (show Kd.M (Kd.int .i64) _ _ _ (-1) [.int .i64 (-1)] from rfl) (Reps.none _ _)))))); intro v11 w6 ho hb hg_ hnew_; clear hg_ hnew_; obtain ⟨A11, c11, e11⟩ := Kd.R_slice ho; subst e11; have S6 := Aside0.mk (S5.out.below hb); have M6 := Aside0.mk (M5.out.below hb); have L6 := Aside0.mk (L5.out.below hb); have HO11 := Aside0.mk ho; clear hb ho S5 M5 L5))
  refine (spec_l01PickInt.calls g s0_0 a2 b2 A11 c11 [0, 10000, 10001, -1] x a3 b3 w0 w6 S6.out.I S6.out.B (Kd.R_reads' HO11.out).2.2 (Kd.R_reads' HO11.out).2.1 (far_slice (IsS98.own_ne S6.out.I HO11.out (by decide))) H3.out).mono ?_
  rintro e w7 ⟨rfl, hi, hb, hk⟩
  have S7 := Aside0.mk (S6.out.call hi hb hk)
  have M7 := Aside0.mk (M6.out.call hk)
  have L7 := Aside0.mk (L6.out.call hk)
  clear hi hb hk S6 M6 L6 HO11
  have m0 : w7.cell? ⟨gb2, 0, none⟩ = some _ := (blk_cell M7.out.blk 0).trans rfl
  have m1 : w7.cell? ⟨gb2, 1, none⟩ = some _ := (blk_cell M7.out.blk 1).trans rfl
  have m2 : w7.cell? ⟨gb2, 2, none⟩ = some _ := (blk_cell M7.out.blk 2).trans rfl
  have m3 : w7.cell? ⟨gb2, 3, none⟩ = some _ := (blk_cell M7.out.blk 3).trans rfl
  have m4 : w7.cell? ⟨gb2, 4, none⟩ = some _ := (blk_cell M7.out.blk 4).trans rfl
  have mf0 := blk_frozen M7.out.blk 0
  have mf1 := blk_frozen M7.out.blk 1
  have mf2 := blk_frozen M7.out.blk 2
  have mf3 := blk_frozen M7.out.blk 3
  have mf4 := blk_frozen M7.out.blk 4
  go_upto_region 13 with (fail)
  clear m0 mf0 m1 mf1 m2 mf2 m3 mf3 m4 mf4
  have s_ := S7.out.set M7.out.ge M7.out.gw M7.out.ne 0 (.int .i64 (x))
  have m_ : spec_l08Note.Lb w0 w (w7.setCell ⟨gb2, 0, none⟩ (.int .i64 (x))) g gb2 (x) (t2) (t3) (t4) (t5) := ⟨blk_put M7.out.blk 0 _ rfl, M7.out.ge, M7.out.gw, M7.out.ne⟩
  have l_ := L7.out.far HNE.out 0 (.int .i64 (x))
  generalize w7.setCell ⟨gb2, 0, none⟩ (.int .i64 (x)) = w8 at s_ m_ l_ ⊢
  have S8 := Aside0.mk s_
  have M8 := Aside0.mk m_
  have L8 := Aside0.mk l_
  clear s_ m_ l_ S7 M7 L7
  have m0 : w8.cell? ⟨gb2, 0, none⟩ = some _ := (blk_cell M8.out.blk 0).trans rfl
  have m1 : w8.cell? ⟨gb2, 1, none⟩ = some _ := (blk_cell M8.out.blk 1).trans rfl
  have m2 : w8.cell? ⟨gb2, 2, none⟩ = some _ := (blk_cell M8.out.blk 2).trans rfl
  have m3 : w8.cell? ⟨gb2, 3, none⟩ = some _ := (blk_cell M8.out.blk 3).trans rfl
  have m4 : w8.cell? ⟨gb2, 4, none⟩ = some _ := (blk_cell M8.out.blk 4).trans rfl
  have mf0 := blk_frozen M8.out.blk 0
  have mf1 := blk_frozen M8.out.blk 1
  have mf2 := blk_frozen M8.out.blk 2
  have mf3 := blk_frozen M8.out.blk 3
  have mf4 := blk_frozen M8.out.blk 4
  have l0 : w8.cell? ⟨gb1, 0, none⟩ = some _ := (blk_cell L8.out.blk 0).trans rfl
  have l1 : w8.cell? ⟨gb1, 1, none⟩ = some _ := (blk_cell L8.out.blk 1).trans rfl
  have l2 : w8.cell? ⟨gb1, 2, none⟩ = some _ := (blk_cell L8.out.blk 2).trans rfl
  have l3 : w8.cell? ⟨gb1, 3, none⟩ = some _ := (blk_cell L8.out.blk 3).trans rfl
  have l4 : w8.cell? ⟨gb1, 4, none⟩ = some _ := (blk_cell L8.out.blk 4).trans rfl
  have lf0 := blk_frozen L8.out.blk 0
  have lf1 := blk_frozen L8.out.blk 1
  have lf2 := blk_frozen L8.out.blk 2
  have lf3 := blk_frozen L8.out.blk 3
  have lf4 := blk_frozen L8.out.blk 4
  go_wp2
  obtain ⟨s_, l_⟩ := spec_l08Note.put S8.out L8.out (x) (t2) (t3) (t4) (t5)
  refine bodyPost_ret (results_cell_row rfl _ _ gb1 25 #[.int .i64 (x), .int .i64 (t2), .int .i64 (t3), .int .i64 (t4), .int .i64 (t5)] (0, 0) _ rfl l_.blk Try.underlying25 rfl (by kernel_rfl)) rfl ?_
  exact ⟨rfl, s_.I, s_.B, s_.K⟩
 ·
  rw [if_neg q0] at h
  have e0 : (n == 0) = false := beq_eq_false_iff_ne.2 q0
  clear q0
  by_cases q1 : n = 1
  ·
   subst q1
   simp only [if_true] at h
   obtain ⟨⟨x, a3, b3⟩, A3, h⟩ := Option.bind_eq_some_iff.1 h
   have H3 := Aside0.mk A3
   simp only [Option.some.injEq, Prod.mk.injEq] at h
   obtain ⟨rfl, rfl, rfl, rfl, rfl, rfl, rfl⟩ := h
   clear A3
   go_wp2_with (first | ((with_reducible refine gate_dst (N := 17) rfl ?_); refine Kd.R_lit (Kd.int .i64) _ 3 ?hg17 (N := 17) ?hd17 (xs := ([0, 5, 2, 4] : List Int)) (inner := [.int .i64 0, .int .i64 5, .int .i64 2, .int .i64 4]) (ok := fun _ => True) (okp := fun _ => True) ?hr17 ?hp17 (fun _ hk => hk) trivial (Below.refl _ _) (Nat.le_refl _) (by simp) ?_; (case hd17 => rfl); (case hg17 => rfl); (case hr17 => first | (go_simp; done) | (go_simp; rfl)); (case hp17 => exact (Reps.one (show Kd.M (Kd.int .i64) _ _ _ 0 [.int .i64 0] from rfl) (Reps.one (show Kd.M (Kd.int .i64) _ _ _ 5 [.int .i64 5] from rfl) (Reps.one (show Kd.M (Kd.int .i64) _ _ _ 2 [.int .i64 2] from rfl) (Reps.one (show Kd.M (Kd.int .i64) _ _ _ 4 [.int .i64 4] from rfl) (Reps.none _ _)))))); intro v17 w6 ho hb hg_ hnew_; clear hg_ hnew_; obtain ⟨A17, c17, e17⟩ := Kd.R_slice ho; subst e17; have S6 := Aside0.mk (S5.out.below hb); have M6 := Aside0.mk (M5.out.below hb); have L6 := Aside0.mk (L5.out.below hb); have HO17 := Aside0.mk ho; clear hb ho S5 M5 L5))
   refine (spec_l01PickInt.calls g s0_0 a2 b2 A17 c17 [0, 5, 2, 4] x a3 b3 w0 w6 S6.out.I S6.out.B (Kd.R_reads' HO17.out).2.2 (Kd.R_reads' HO17.out).2.1 (far_slice (IsS98.own_ne S6.out.I HO17.out (by decide))) H3.out).mono ?_
   rintro e w7 ⟨rfl, hi, hb, hk⟩
   have S7 := Aside0.mk (S6.out.call hi hb hk)
   have M7 := Aside0.mk (M6.out.call hk)
   have L7 := Aside0.mk (L6.out.call hk)
   clear hi hb hk S6 M6 L6 HO17
   have m0 : w7.cell? ⟨gb2, 0, none⟩ = some _ := (blk_cell M7.out.blk 0).trans rfl
   have m1 : w7.cell? ⟨gb2, 1, none⟩ = some _ := (blk_cell M7.out.blk 1).trans rfl
   have m2 : w7.cell? ⟨gb2, 2, none⟩ = some _ := (blk_cell M7.out.blk 2).trans rfl
   have m3 : w7.cell? ⟨gb2, 3, none⟩ = some _ := (blk_cell M7.out.blk 3).trans rfl
   have m4 : w7.cell? ⟨gb2, 4, none⟩ = some _ := (blk_cell M7.out.blk 4).trans rfl
   have mf0 := blk_frozen M7.out.blk 0
   have mf1 := blk_frozen M7.out.blk 1
   have mf2 := blk_frozen M7.out.blk 2
   have mf3 := blk_frozen M7.out.blk 3
   have mf4 := blk_frozen M7.out.blk 4
   go_upto_region 13 with (fail)
   clear m0 mf0 m1 mf1 m2 mf2 m3 mf3 m4 mf4
   have s_ := S7.out.set M7.out.ge M7.out.gw M7.out.ne 1 (.int .i64 (x))
   have m_ : spec_l08Note.Lb w0 w (w7.setCell ⟨gb2, 1, none⟩ (.int .i64 (x))) g gb2 (t1) (x) (t3) (t4) (t5) := ⟨blk_put M7.out.blk 1 _ rfl, M7.out.ge, M7.out.gw, M7.out.ne⟩
   have l_ := L7.out.far HNE.out 1 (.int .i64 (x))
   generalize w7.setCell ⟨gb2, 1, none⟩ (.int .i64 (x)) = w8 at s_ m_ l_ ⊢
   have S8 := Aside0.mk s_
   have M8 := Aside0.mk m_
   have L8 := Aside0.mk l_
   clear s_ m_ l_ S7 M7 L7
   have m0 : w8.cell? ⟨gb2, 0, none⟩ = some _ := (blk_cell M8.out.blk 0).trans rfl
   have m1 : w8.cell? ⟨gb2, 1, none⟩ = some _ := (blk_cell M8.out.blk 1).trans rfl
   have m2 : w8.cell? ⟨gb2, 2, none⟩ = some _ := (blk_cell M8.out.blk 2).trans rfl
   have m3 : w8.cell? ⟨gb2, 3, none⟩ = some _ := (blk_cell M8.out.blk 3).trans rfl
   have m4 : w8.cell? ⟨gb2, 4, none⟩ = some _ := (blk_cell M8.out.blk 4).trans rfl
   have mf0 := blk_frozen M8.out.blk 0
   have mf1 := blk_frozen M8.out.blk 1
   have mf2 := blk_frozen M8.out.blk 2
   have mf3 := blk_frozen M8.out.blk 3
   have mf4 := blk_frozen M8.out.blk 4
   have l0 : w8.cell? ⟨gb1, 0, none⟩ = some _ := (blk_cell L8.out.blk 0).trans rfl
   have l1 : w8.cell? ⟨gb1, 1, none⟩ = some _ := (blk_cell L8.out.blk 1).trans rfl
   have l2 : w8.cell? ⟨gb1, 2, none⟩ = some _ := (blk_cell L8.out.blk 2).trans rfl
   have l3 : w8.cell? ⟨gb1, 3, none⟩ = some _ := (blk_cell L8.out.blk 3).trans rfl
   have l4 : w8.cell? ⟨gb1, 4, none⟩ = some _ := (blk_cell L8.out.blk 4).trans rfl
   have lf0 := blk_frozen L8.out.blk 0
   have lf1 := blk_frozen L8.out.blk 1
   have lf2 := blk_frozen L8.out.blk 2
   have lf3 := blk_frozen L8.out.blk 3
   have lf4 := blk_frozen L8.out.blk 4
   go_wp2
   obtain ⟨s_, l_⟩ := spec_l08Note.put S8.out L8.out (t1) (x) (t3) (t4) (t5)
   refine bodyPost_ret (results_cell_row rfl _ _ gb1 25 #[.int .i64 (t1), .int .i64 (x), .int .i64 (t3), .int .i64 (t4), .int .i64 (t5)] (0, 0) _ rfl l_.blk Try.underlying25 rfl (by kernel_rfl)) rfl ?_
   exact ⟨rfl, s_.I, s_.B, s_.K⟩
  ·
   rw [if_neg q1] at h
   have e1 : (n == 1) = false := beq_eq_false_iff_ne.2 q1
   clear q1
   by_cases q2 : n = 2
   ·
    subst q2
    simp only [if_true] at h
    obtain ⟨⟨x, a3, b3⟩, A3, h⟩ := Option.bind_eq_some_iff.1 h
    have H3 := Aside0.mk A3
    simp only [Option.some.injEq, Prod.mk.injEq] at h
    obtain ⟨rfl, rfl, rfl, rfl, rfl, rfl, rfl⟩ := h
    clear A3
    go_wp2_with (first | ((with_reducible refine gate_dst (N := 23) rfl ?_); refine Kd.R_lit (Kd.int .i64) _ 3 ?hg23 (N := 23) ?hd23 (xs := ([0, 1000, 1001, 3] : List Int)) (inner := [.int .i64 0, .int .i64 1000, .int .i64 1001, .int .i64 3]) (ok := fun _ => True) (okp := fun _ => True) ?hr23 ?hp23 (fun _ hk => hk) trivial (Below.refl _ _) (Nat.le_refl _) (by simp) ?_; (case hd23 => rfl); (case hg23 => rfl); (case hr23 => first | (go_simp; done) | (go_simp; rfl)); (case hp23 => exact (Reps.one (show Kd.M (Kd.int .i64) _ _ _ 0 [.int .i64 0] from rfl) (Reps.one (show Kd.M (Kd.int .i64) _ _ _ 1000 [.int .i64 1000] from rfl) (Reps.one (show Kd.M (Kd.int .i64) _ _ _ 1001 [.int .i64 1001] from rfl) (Reps.one (show Kd.M (Kd.int .i64) _ _ _ 3 [.int .i64 3] from rfl) (Reps.none _ _)))))); intro v23 w6 ho hb hg_ hnew_; clear hg_ hnew_; obtain ⟨A23, c23, e23⟩ := Kd.R_slice ho; subst e23; have S6 := Aside0.mk (S5.out.below hb); have M6 := Aside0.mk (M5.out.below hb); have L6 := Aside0.mk (L5.out.below hb); have HO23 := Aside0.mk ho; clear hb ho S5 M5 L5))
    refine (spec_l01PickInt.calls g s0_0 a2 b2 A23 c23 [0, 1000, 1001, 3] x a3 b3 w0 w6 S6.out.I S6.out.B (Kd.R_reads' HO23.out).2.2 (Kd.R_reads' HO23.out).2.1 (far_slice (IsS98.own_ne S6.out.I HO23.out (by decide))) H3.out).mono ?_
    rintro e w7 ⟨rfl, hi, hb, hk⟩
    have S7 := Aside0.mk (S6.out.call hi hb hk)
    have M7 := Aside0.mk (M6.out.call hk)
    have L7 := Aside0.mk (L6.out.call hk)
    clear hi hb hk S6 M6 L6 HO23
    have m0 : w7.cell? ⟨gb2, 0, none⟩ = some _ := (blk_cell M7.out.blk 0).trans rfl
    have m1 : w7.cell? ⟨gb2, 1, none⟩ = some _ := (blk_cell M7.out.blk 1).trans rfl
    have m2 : w7.cell? ⟨gb2, 2, none⟩ = some _ := (blk_cell M7.out.blk 2).trans rfl
    have m3 : w7.cell? ⟨gb2, 3, none⟩ = some _ := (blk_cell M7.out.blk 3).trans rfl
    have m4 : w7.cell? ⟨gb2, 4, none⟩ = some _ := (blk_cell M7.out.blk 4).trans rfl
    have mf0 := blk_frozen M7.out.blk 0
    have mf1 := blk_frozen M7.out.blk 1
    have mf2 := blk_frozen M7.out.blk 2
    have mf3 := blk_frozen M7.out.blk 3
    have mf4 := blk_frozen M7.out.blk 4
    go_upto_region 13 with (fail)
    clear m0 mf0 m1 mf1 m2 mf2 m3 mf3 m4 mf4
    have s_ := S7.out.set M7.out.ge M7.out.gw M7.out.ne 2 (.int .i64 (x))
    have m_ : spec_l08Note.Lb w0 w (w7.setCell ⟨gb2, 2, none⟩ (.int .i64 (x))) g gb2 (t1) (t2) (x) (t4) (t5) := ⟨blk_put M7.out.blk 2 _ rfl, M7.out.ge, M7.out.gw, M7.out.ne⟩
    have l_ := L7.out.far HNE.out 2 (.int .i64 (x))
    generalize w7.setCell ⟨gb2, 2, none⟩ (.int .i64 (x)) = w8 at s_ m_ l_ ⊢
    have S8 := Aside0.mk s_
    have M8 := Aside0.mk m_
    have L8 := Aside0.mk l_
    clear s_ m_ l_ S7 M7 L7
    have m0 : w8.cell? ⟨gb2, 0, none⟩ = some _ := (blk_cell M8.out.blk 0).trans rfl
    have m1 : w8.cell? ⟨gb2, 1, none⟩ = some _ := (blk_cell M8.out.blk 1).trans rfl
    have m2 : w8.cell? ⟨gb2, 2, none⟩ = some _ := (blk_cell M8.out.blk 2).trans rfl
    have m3 : w8.cell? ⟨gb2, 3, none⟩ = some _ := (blk_cell M8.out.blk 3).trans rfl
    have m4 : w8.cell? ⟨gb2, 4, none⟩ = some _ := (blk_cell M8.out.blk 4).trans rfl
    have mf0 := blk_frozen M8.out.blk 0
    have mf1 := blk_frozen M8.out.blk 1
    have mf2 := blk_frozen M8.out.blk 2
    have mf3 := blk_frozen M8.out.blk 3
    have mf4 := blk_frozen M8.out.blk 4
    have l0 : w8.cell? ⟨gb1, 0, none⟩ = some _ := (blk_cell L8.out.blk 0).trans rfl
    have l1 : w8.cell? ⟨gb1, 1, none⟩ = some _ := (blk_cell L8.out.blk 1).trans rfl
    have l2 : w8.cell? ⟨gb1, 2, none⟩ = some _ := (blk_cell L8.out.blk 2).trans rfl
    have l3 : w8.cell? ⟨gb1, 3, none⟩ = some _ := (blk_cell L8.out.blk 3).trans rfl
    have l4 : w8.cell? ⟨gb1, 4, none⟩ = some _ := (blk_cell L8.out.blk 4).trans rfl
    have lf0 := blk_frozen L8.out.blk 0
    have lf1 := blk_frozen L8.out.blk 1
    have lf2 := blk_frozen L8.out.blk 2
    have lf3 := blk_frozen L8.out.blk 3
    have lf4 := blk_frozen L8.out.blk 4
    go_wp2
    obtain ⟨s_, l_⟩ := spec_l08Note.put S8.out L8.out (t1) (t2) (x) (t4) (t5)
    refine bodyPost_ret (results_cell_row rfl _ _ gb1 25 #[.int .i64 (t1), .int .i64 (t2), .int .i64 (x), .int .i64 (t4), .int .i64 (t5)] (0, 0) _ rfl l_.blk Try.underlying25 rfl (by kernel_rfl)) rfl ?_
    exact ⟨rfl, s_.I, s_.B, s_.K⟩
   ·
    rw [if_neg q2] at h
    have e2 : (n == 2) = false := beq_eq_false_iff_ne.2 q2
    clear q2
    by_cases q3 : n = 3
    ·
     subst q3
     simp only [if_true] at h
     obtain ⟨⟨x, a3, b3⟩, A3, h⟩ := Option.bind_eq_some_iff.1 h
     have H3 := Aside0.mk A3
     simp only [Option.some.injEq, Prod.mk.injEq] at h
     obtain ⟨rfl, rfl, rfl, rfl, rfl, rfl, rfl⟩ := h
     clear A3
     go_wp2_with (first | ((with_reducible refine gate_dst (N := 29) rfl ?_); refine Kd.R_lit (Kd.int .i64) _ 3 ?hg29 (N := 29) ?hd29 (xs := ([0, 1000, 1001, 2] : List Int)) (inner := [.int .i64 0, .int .i64 1000, .int .i64 1001, .int .i64 2]) (ok := fun _ => True) (okp := fun _ => True) ?hr29 ?hp29 (fun _ hk => hk) trivial (Below.refl _ _) (Nat.le_refl _) (by simp) ?_; (case hd29 => rfl); (case hg29 => rfl); (case hr29 => first | (go_simp; done) | (go_simp; rfl)); (case hp29 => exact (Reps.one (show Kd.M (Kd.int .i64) _ _ _ 0 [.int .i64 0] from rfl) (Reps.one (show Kd.M (Kd.int .i64) _ _ _ 1000 [.int .i64 1000] from rfl) (Reps.one (show Kd.M (Kd.int .i64) _ _ _ 1001 [.int .i64 1001] from rfl) (Reps.one (show Kd.M (Kd.int .i64) _ _ _ 2 [.int .i64 2] from rfl) (Reps.none _ _)))))); intro v29 w6 ho hb hg_ hnew_; clear hg_ hnew_; obtain ⟨A29, c29, e29⟩ := Kd.R_slice ho; subst e29; have S6 := Aside0.mk (S5.out.below hb); have M6 := Aside0.mk (M5.out.below hb); have L6 := Aside0.mk (L5.out.below hb); have HO29 := Aside0.mk ho; clear hb ho S5 M5 L5))
     refine (spec_l01PickInt.calls g s0_0 a2 b2 A29 c29 [0, 1000, 1001, 2] x a3 b3 w0 w6 S6.out.I S6.out.B (Kd.R_reads' HO29.out).2.2 (Kd.R_reads' HO29.out).2.1 (far_slice (IsS98.own_ne S6.out.I HO29.out (by decide))) H3.out).mono ?_
     rintro e w7 ⟨rfl, hi, hb, hk⟩
     have S7 := Aside0.mk (S6.out.call hi hb hk)
     have M7 := Aside0.mk (M6.out.call hk)
     have L7 := Aside0.mk (L6.out.call hk)
     clear hi hb hk S6 M6 L6 HO29
     have m0 : w7.cell? ⟨gb2, 0, none⟩ = some _ := (blk_cell M7.out.blk 0).trans rfl
     have m1 : w7.cell? ⟨gb2, 1, none⟩ = some _ := (blk_cell M7.out.blk 1).trans rfl
     have m2 : w7.cell? ⟨gb2, 2, none⟩ = some _ := (blk_cell M7.out.blk 2).trans rfl
     have m3 : w7.cell? ⟨gb2, 3, none⟩ = some _ := (blk_cell M7.out.blk 3).trans rfl
     have m4 : w7.cell? ⟨gb2, 4, none⟩ = some _ := (blk_cell M7.out.blk 4).trans rfl
     have mf0 := blk_frozen M7.out.blk 0
     have mf1 := blk_frozen M7.out.blk 1
     have mf2 := blk_frozen M7.out.blk 2
     have mf3 := blk_frozen M7.out.blk 3
     have mf4 := blk_frozen M7.out.blk 4
     go_upto_region 13 with (fail)
     clear m0 mf0 m1 mf1 m2 mf2 m3 mf3 m4 mf4
     have s_ := S7.out.set M7.out.ge M7.out.gw M7.out.ne 3 (.int .i64 (x))
     have m_ : spec_l08Note.Lb w0 w (w7.setCell ⟨gb2, 3, none⟩ (.int .i64 (x))) g gb2 (t1) (t2) (t3) (x) (t5) := ⟨blk_put M7.out.blk 3 _ rfl, M7.out.ge, M7.out.gw, M7.out.ne⟩
     have l_ := L7.out.far HNE.out 3 (.int .i64 (x))
     generalize w7.setCell ⟨gb2, 3, none⟩ (.int .i64 (x)) = w8 at s_ m_ l_ ⊢
     have S8 := Aside0.mk s_
     have M8 := Aside0.mk m_
     have L8 := Aside0.mk l_
     clear s_ m_ l_ S7 M7 L7
     have m0 : w8.cell? ⟨gb2, 0, none⟩ = some _ := (blk_cell M8.out.blk 0).trans rfl
     have m1 : w8.cell? ⟨gb2, 1, none⟩ = some _ := (blk_cell M8.out.blk 1).trans rfl
     have m2 : w8.cell? ⟨gb2, 2, none⟩ = some _ := (blk_cell M8.out.blk 2).trans rfl
     have m3 : w8.cell? ⟨gb2, 3, none⟩ = some _ := (blk_cell M8.out.blk 3).trans rfl
     have m4 : w8.cell? ⟨gb2, 4, none⟩ = some _ := (blk_cell M8.out.blk 4).trans rfl
     have mf0 := blk_frozen M8.out.blk 0
     have mf1 := blk_frozen M8.out.blk 1
     have mf2 := blk_frozen M8.out.blk 2
     have mf3 := blk_frozen M8.out.blk 3
     have mf4 := blk_frozen M8.out.blk 4
     have l0 : w8.cell? ⟨gb1, 0, none⟩ = some _ := (blk_cell L8.out.blk 0).trans rfl
     have l1 : w8.cell? ⟨gb1, 1, none⟩ = some _ := (blk_cell L8.out.blk 1).trans rfl
     have l2 : w8.cell? ⟨gb1, 2, none⟩ = some _ := (blk_cell L8.out.blk 2).trans rfl
     have l3 : w8.cell? ⟨gb1, 3, none⟩ = some _ := (blk_cell L8.out.blk 3).trans rfl
     have l4 : w8.cell? ⟨gb1, 4, none⟩ = some _ := (blk_cell L8.out.blk 4).trans rfl
     have lf0 := blk_frozen L8.out.blk 0
     have lf1 := blk_frozen L8.out.blk 1
     have lf2 := blk_frozen L8.out.blk 2
     have lf3 := blk_frozen L8.out.blk 3
     have lf4 := blk_frozen L8.out.blk 4
     go_wp2
     obtain ⟨s_, l_⟩ := spec_l08Note.put S8.out L8.out (t1) (t2) (t3) (x) (t5)
     refine bodyPost_ret (results_cell_row rfl _ _ gb1 25 #[.int .i64 (t1), .int .i64 (t2), .int .i64 (t3), .int .i64 (x), .int .i64 (t5)] (0, 0) _ rfl l_.blk Try.underlying25 rfl (by kernel_rfl)) rfl ?_
     exact ⟨rfl, s_.I, s_.B, s_.K⟩
    ·
     rw [if_neg q3] at h
     have e3 : (n == 3) = false := beq_eq_false_iff_ne.2 q3
     clear q3
     by_cases q4 : n = 4
     ·
      subst q4
      simp only [if_true] at h
      obtain ⟨⟨x, a3, b3⟩, A3, h⟩ := Option.bind_eq_some_iff.1 h
      have H3 := Aside0.mk A3
      simp only [Option.some.injEq, Prod.mk.injEq] at h
      obtain ⟨rfl, rfl, rfl, rfl, rfl, rfl, rfl⟩ := h
      clear A3
      go_wp2_with (first | ((with_reducible refine gate_dst (N := 35) rfl ?_); refine Kd.R_lit (Kd.int .i64) _ 3 ?hg35 (N := 35) ?hd35 (xs := ([0, 20, 21] : List Int)) (inner := [.int .i64 0, .int .i64 20, .int .i64 21]) (ok := fun _ => True) (okp := fun _ => True) ?hr35 ?hp35 (fun _ hk => hk) trivial (Below.refl _ _) (Nat.le_refl _) (by simp) ?_; (case hd35 => rfl); (case hg35 => rfl); (case hr35 => first | (go_simp; done) | (go_simp; rfl)); (case hp35 => exact (Reps.one (show Kd.M (Kd.int .i64) _ _ _ 0 [.int .i64 0] from rfl) (Reps.one (show Kd.M (Kd.int .i64) _ _ _ 20 [.int .i64 20] from rfl) (Reps.one (show Kd.M (Kd.int .i64) _ _ _ 21 [.int .i64 21] from rfl) (Reps.none _ _))))); intro v35 w6 ho hb hg_ hnew_; clear hg_ hnew_; obtain ⟨A35, c35, e35⟩ := Kd.R_slice ho; subst e35; have S6 := Aside0.mk (S5.out.below hb); have M6 := Aside0.mk (M5.out.below hb); have L6 := Aside0.mk (L5.out.below hb); have HO35 := Aside0.mk ho; clear hb ho S5 M5 L5))
      refine (spec_l01PickInt.calls g s0_0 a2 b2 A35 c35 [0, 20, 21] x a3 b3 w0 w6 S6.out.I S6.out.B (Kd.R_reads' HO35.out).2.2 (Kd.R_reads' HO35.out).2.1 (far_slice (IsS98.own_ne S6.out.I HO35.out (by decide))) H3.out).mono ?_
      rintro e w7 ⟨rfl, hi, hb, hk⟩
      have S7 := Aside0.mk (S6.out.call hi hb hk)
      have M7 := Aside0.mk (M6.out.call hk)
      have L7 := Aside0.mk (L6.out.call hk)
      clear hi hb hk S6 M6 L6 HO35
      have m0 : w7.cell? ⟨gb2, 0, none⟩ = some _ := (blk_cell M7.out.blk 0).trans rfl
      have m1 : w7.cell? ⟨gb2, 1, none⟩ = some _ := (blk_cell M7.out.blk 1).trans rfl
      have m2 : w7.cell? ⟨gb2, 2, none⟩ = some _ := (blk_cell M7.out.blk 2).trans rfl
      have m3 : w7.cell? ⟨gb2, 3, none⟩ = some _ := (blk_cell M7.out.blk 3).trans rfl
      have m4 : w7.cell? ⟨gb2, 4, none⟩ = some _ := (blk_cell M7.out.blk 4).trans rfl
      have mf0 := blk_frozen M7.out.blk 0
      have mf1 := blk_frozen M7.out.blk 1
      have mf2 := blk_frozen M7.out.blk 2
      have mf3 := blk_frozen M7.out.blk 3
      have mf4 := blk_frozen M7.out.blk 4
      go_upto_region 13 with (fail)
      clear m0 mf0 m1 mf1 m2 mf2 m3 mf3 m4 mf4
      have s_ := S7.out.set M7.out.ge M7.out.gw M7.out.ne 4 (.int .i64 (x))
      have m_ : spec_l08Note.Lb w0 w (w7.setCell ⟨gb2, 4, none⟩ (.int .i64 (x))) g gb2 (t1) (t2) (t3) (t4) (x) := ⟨blk_put M7.out.blk 4 _ rfl, M7.out.ge, M7.out.gw, M7.out.ne⟩
      have l_ := L7.out.far HNE.out 4 (.int .i64 (x))
      generalize w7.setCell ⟨gb2, 4, none⟩ (.int .i64 (x)) = w8 at s_ m_ l_ ⊢
      have S8 := Aside0.mk s_
      have M8 := Aside0.mk m_
      have L8 := Aside0.mk l_
      clear s_ m_ l_ S7 M7 L7
      have m0 : w8.cell? ⟨gb2, 0, none⟩ = some _ := (blk_cell M8.out.blk 0).trans rfl
      have m1 : w8.cell? ⟨gb2, 1, none⟩ = some _ := (blk_cell M8.out.blk 1).trans rfl
      have m2 : w8.cell? ⟨gb2, 2, none⟩ = some _ := (blk_cell M8.out.blk 2).trans rfl
      have m3 : w8.cell? ⟨gb2, 3, none⟩ = some _ := (blk_cell M8.out.blk 3).trans rfl
      have m4 : w8.cell? ⟨gb2, 4, none⟩ = some _ := (blk_cell M8.out.blk 4).trans rfl
      have mf0 := blk_frozen M8.out.blk 0
      have mf1 := blk_frozen M8.out.blk 1
      have mf2 := blk_frozen M8.out.blk 2
      have mf3 := blk_frozen M8.out.blk 3
      have mf4 := blk_frozen M8.out.blk 4
      have l0 : w8.cell? ⟨gb1, 0, none⟩ = some _ := (blk_cell L8.out.blk 0).trans rfl
      have l1 : w8.cell? ⟨gb1, 1, none⟩ = some _ := (blk_cell L8.out.blk 1).trans rfl
      have l2 : w8.cell? ⟨gb1, 2, none⟩ = some _ := (blk_cell L8.out.blk 2).trans rfl
      have l3 : w8.cell? ⟨gb1, 3, none⟩ = some _ := (blk_cell L8.out.blk 3).trans rfl
      have l4 : w8.cell? ⟨gb1, 4, none⟩ = some _ := (blk_cell L8.out.blk 4).trans rfl
      have lf0 := blk_frozen L8.out.blk 0
      have lf1 := blk_frozen L8.out.blk 1
      have lf2 := blk_frozen L8.out.blk 2
      have lf3 := blk_frozen L8.out.blk 3
      have lf4 := blk_frozen L8.out.blk 4
      go_wp2
      obtain ⟨s_, l_⟩ := spec_l08Note.put S8.out L8.out (t1) (t2) (t3) (t4) (x)
      refine bodyPost_ret (results_cell_row rfl _ _ gb1 25 #[.int .i64 (t1), .int .i64 (t2), .int .i64 (t3), .int .i64 (t4), .int .i64 (x)] (0, 0) _ rfl l_.blk Try.underlying25 rfl (by kernel_rfl)) rfl ?_
      exact ⟨rfl, s_.I, s_.B, s_.K⟩
     ·
      rw [if_neg q4] at h
      have e4 : (n == 4) = false := beq_eq_false_iff_ne.2 q4
      clear q4
      simp only [Option.some.injEq, Prod.mk.injEq] at h
      obtain ⟨rfl, rfl, rfl, rfl, rfl, rfl, rfl⟩ := h
      go_upto_region 13 with (fail)
      have m0 : w5.cell? ⟨gb2, 0, none⟩ = some _ := (blk_cell M5.out.blk 0).trans rfl
      have m1 : w5.cell? ⟨gb2, 1, none⟩ = some _ := (blk_cell M5.out.blk 1).trans rfl
      have m2 : w5.cell? ⟨gb2, 2, none⟩ = some _ := (blk_cell M5.out.blk 2).trans rfl
      have m3 : w5.cell? ⟨gb2, 3, none⟩ = some _ := (blk_cell M5.out.blk 3).trans rfl
      have m4 : w5.cell? ⟨gb2, 4, none⟩ = some _ := (blk_cell M5.out.blk 4).trans rfl
      have mf0 := blk_frozen M5.out.blk 0
      have mf1 := blk_frozen M5.out.blk 1
      have mf2 := blk_frozen M5.out.blk 2
      have mf3 := blk_frozen M5.out.blk 3
      have mf4 := blk_frozen M5.out.blk 4
      have l0 : w5.cell? ⟨gb1, 0, none⟩ = some _ := (blk_cell L5.out.blk 0).trans rfl
      have l1 : w5.cell? ⟨gb1, 1, none⟩ = some _ := (blk_cell L5.out.blk 1).trans rfl
      have l2 : w5.cell? ⟨gb1, 2, none⟩ = some _ := (blk_cell L5.out.blk 2).trans rfl
      have l3 : w5.cell? ⟨gb1, 3, none⟩ = some _ := (blk_cell L5.out.blk 3).trans rfl
      have l4 : w5.cell? ⟨gb1, 4, none⟩ = some _ := (blk_cell L5.out.blk 4).trans rfl
      have lf0 := blk_frozen L5.out.blk 0
      have lf1 := blk_frozen L5.out.blk 1
      have lf2 := blk_frozen L5.out.blk 2
      have lf3 := blk_frozen L5.out.blk 3
      have lf4 := blk_frozen L5.out.blk 4
      go_wp2
      obtain ⟨s_, l_⟩ := spec_l08Note.put S5.out L5.out (t1) (t2) (t3) (t4) (t5)
      refine bodyPost_ret (results_cell_row rfl _ _ gb1 25 #[.int .i64 (t1), .int .i64 (t2), .int .i64 (t3), .int .i64 (t4), .int .i64 (t5)] (0, 0) _ rfl l_.blk Try.underlying25 rfl (by kernel_rfl)) rfl ?_
      exact ⟨rfl, s_.I, s_.B, s_.K⟩

end Go.Proofs.Ytppojihmllmgnaa.F

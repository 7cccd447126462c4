-- PRINTED by print.py (a twelfth state) out of the translation. Not trusted: Lean checks it.
import Derived.Test.YtppojihmllmgnaaF
import Derived.Test.YtppojihmllmgnaaF84
import Derived.Test.YtppojihmllmgnaaF87
import Derived.Test.YtppojihmllmgnaaF100
namespace Go.Proofs.Ytppojihmllmgnaa.F
open Go.Proofs.Ytppojihmllmgnaa.Opn
open Go.RowKit Go.Proofs.YtppojihmllmgnaaW.PrintWords Go.Proofs.YtppojihmllmgnaaW.PrintLast
set_option linter.unusedVariables false
set_option linter.unusedSimpArgs false

/-! ### spec_l08Note: function 98 -/
/-- What a draw keeps: the cursor, what lay below, what is no cursor. -/
structure spec_l08Note.St (w0 w W : World) (g : Nat) (s : List Int) (a b : Int) : Prop where
 I : IsS98 w0 W g s a b
 B : Below w0.heap.size w0 W
 K : KeepBut w W g none
theorem spec_l08Note.St.below {w0 w W W2 : World} {g : Nat} {s : List Int} {a b : Int} (h : spec_l08Note.St w0 w W g s a b) (hb : Below W.heap.size W W2) : spec_l08Note.St w0 w W2 g s a b :=
 ⟨IsS98.below h.I hb, below_step h.B hb, KeepBut.trans h.K (KeepBut.of_below hb g none) (.inl rfl)⟩
theorem spec_l08Note.St.call {w0 w W W2 : World} {g : Nat} {s : List Int} {a b a' b' : Int} (h : spec_l08Note.St w0 w W g s a b) (hi : IsS98 w0 W2 g s a' b') (hb : Below w0.heap.size w0 W2) (hk : KeepBut W W2 g none) : spec_l08Note.St w0 w W2 g s a' b' :=
 ⟨hi, hb, KeepBut.trans h.K hk (.inl rfl)⟩
/-- A note of the call's own, in its block. -/
structure spec_l08Note.Lb (w0 w W : World) (g B : Nat) (c0 c1 c2 c3 c4 : Int) : Prop where
 blk : W.heap[B]? = some (.cells #[.int .i64 c0, .int .i64 c1, .int .i64 c2, .int .i64 c3, .int .i64 c4] 25 (0, 0))
 ge : w0.heap.size ≤ B
 gw : w.heap.size ≤ B
 ne : B ≠ g
theorem spec_l08Note.Lb.below {w0 w W W2 : World} {g B : Nat} {c0 c1 c2 c3 c4 : Int} (h : spec_l08Note.Lb w0 w W g B c0 c1 c2 c3 c4) (hb : Below W.heap.size W W2) : spec_l08Note.Lb w0 w W2 g B c0 c1 c2 c3 c4 := ⟨blk_below h.blk hb, h.ge, h.gw, h.ne⟩
theorem spec_l08Note.Lb.call {w0 w W W2 : World} {g B : Nat} {c0 c1 c2 c3 c4 : Int} (h : spec_l08Note.Lb w0 w W g B c0 c1 c2 c3 c4) (hk : KeepBut W W2 g none) : spec_l08Note.Lb w0 w W2 g B c0 c1 c2 c3 c4 := ⟨KeepBut.blk hk h.blk h.ne (by simp), h.ge, h.gw, h.ne⟩
theorem spec_l08Note.Lb.new {w0 w W W2 : World} {g B : Nat} {s : List Int} {a b c0 c1 c2 c3 c4 : Int} (hS : spec_l08Note.St w0 w W g s a b) (hg : B = W.heap.size) (hbox : W2.heap[B]? = some (.cells #[.int .i64 c0, .int .i64 c1, .int .i64 c2, .int .i64 c3, .int .i64 c4] 25 (0, 0))) : spec_l08Note.Lb w0 w W2 g B c0 c1 c2 c3 c4 :=
 ⟨hbox, by rw [hg]; exact below_size hS.B, by rw [hg]; exact keep_size hS.K, by rw [hg]; exact Nat.ne_of_gt (IsS98.lt hS.I)⟩
theorem spec_l08Note.St.set {w0 w W : World} {g B : Nat} {s : List Int} {a b : Int} (h : spec_l08Note.St w0 w W g s a b) (h1 : w0.heap.size ≤ B) (h2 : w.heap.size ≤ B) (h3 : B ≠ g) (i : Nat) (v : Value) : spec_l08Note.St w0 w (W.setCell ⟨B, i, none⟩ v) g s a b :=
 ⟨IsS98.far h.I (p := ⟨B, i, none⟩) (Ne.symm h3) v, below_set h.B h1, keep_far h.K (p := ⟨B, i, none⟩) h2 v⟩
/-- The whole note is written. -/
theorem spec_l08Note.put {w0 w W : World} {g B : Nat} {s : List Int} {a b c0 c1 c2 c3 c4 : Int} (h : spec_l08Note.St w0 w W g s a b) (hl : spec_l08Note.Lb w0 w W g B c0 c1 c2 c3 c4) (d0 d1 d2 d3 d4 : Int) :
  spec_l08Note.St w0 w (((((W.setCell ⟨B, 0, none⟩ (.int .i64 d0)).setCell ⟨B, 1, none⟩ (.int .i64 d1)).setCell ⟨B, 2, none⟩ (.int .i64 d2)).setCell ⟨B, 3, none⟩ (.int .i64 d3)).setCell ⟨B, 4, none⟩ (.int .i64 d4)) g s a b ∧
  spec_l08Note.Lb w0 w (((((W.setCell ⟨B, 0, none⟩ (.int .i64 d0)).setCell ⟨B, 1, none⟩ (.int .i64 d1)).setCell ⟨B, 2, none⟩ (.int .i64 d2)).setCell ⟨B, 3, none⟩ (.int .i64 d3)).setCell ⟨B, 4, none⟩ (.int .i64 d4)) g B d0 d1 d2 d3 d4 :=
 ⟨((((h.set hl.ge hl.gw hl.ne 0 _).set hl.ge hl.gw hl.ne 1 _).set hl.ge hl.gw hl.ne 2 _).set hl.ge hl.gw hl.ne 3 _).set hl.ge hl.gw hl.ne 4 _,
  ⟨blk_put (cs := #[.int .i64 d0, .int .i64 d1, .int .i64 d2, .int .i64 d3, .int .i64 c4]) (blk_put (cs := #[.int .i64 d0, .int .i64 d1, .int .i64 d2, .int .i64 c3, .int .i64 c4]) (blk_put (cs := #[.int .i64 d0, .int .i64 d1, .int .i64 c2, .int .i64 c3, .int .i64 c4]) (blk_put (cs := #[.int .i64 d0, .int .i64 c1, .int .i64 c2, .int .i64 c3, .int .i64 c4]) (blk_put hl.blk 0 _ rfl) 1 _ rfl) 2 _ rfl) 3 _ rfl) 4 _ rfl, hl.ge, hl.gw, hl.ne⟩⟩
/-- Another block is written. -/
theorem spec_l08Note.Lb.far5 {w0 w W : World} {g B B' : Nat} {c0 c1 c2 c3 c4 : Int} (hl : spec_l08Note.Lb w0 w W g B c0 c1 c2 c3 c4) (hne : B ≠ B') (v0 v1 v2 v3 v4 : Value) :
  spec_l08Note.Lb w0 w (((((W.setCell ⟨B', 0, none⟩ v0).setCell ⟨B', 1, none⟩ v1).setCell ⟨B', 2, none⟩ v2).setCell ⟨B', 3, none⟩ v3).setCell ⟨B', 4, none⟩ v4) g B c0 c1 c2 c3 c4 :=
 ⟨blk_far (blk_far (blk_far (blk_far (blk_far hl.blk (p := ⟨B', 0, none⟩) hne v0) (p := ⟨B', 1, none⟩) hne v1) (p := ⟨B', 2, none⟩) hne v2) (p := ⟨B', 3, none⟩) hne v3) (p := ⟨B', 4, none⟩) hne v4, hl.ge, hl.gw, hl.ne⟩
theorem spec_l08Note.Lb.far {w0 w W : World} {g B B' : Nat} {c0 c1 c2 c3 c4 : Int} (hl : spec_l08Note.Lb w0 w W g B c0 c1 c2 c3 c4) (hne : B ≠ B') (i : Nat) (v : Value) : spec_l08Note.Lb w0 w (W.setCell ⟨B', i, none⟩ v) g B c0 c1 c2 c3 c4 :=
 ⟨blk_far hl.blk (p := ⟨B', i, none⟩) hne v, hl.ge, hl.gw, hl.ne⟩
def spec_l08Note.f (s0_0 : List Int) (s0_1 : Int) (s0_2 : Int) : Option (Int × Int × Int × Int × Int × Int × Int) := (spec_l01Below.f s0_0 s0_1 s0_2 24).bind fun bt879 => ((spec_l01PickInt.f s0_0 bt879.2.1 bt879.2.2 (([1, 1, 1, 2, 2, 3, 4] : List Int))).bind fun bt885 => ((spec_l01Below.f s0_0 bt885.2.1 bt885.2.2 3).bind fun bt888 => (if bt885.1 = 4 then (if bt885.1 = 1 then ((spec_l01Below.f s0_0 bt888.2.1 bt888.2.2 6).bind fun bt892 => (some (wrap64 (1 + bt879.1), bt885.1, 0, wrap64 (1 + bt892.1), wrap64 (1 + bt888.1), bt892.2.1, bt892.2.2))) else ((spec_l01Below.f s0_0 bt888.2.1 bt888.2.2 6).bind fun bt895 => (some (wrap64 (1 + bt879.1), bt885.1, 0, wrap64 (1 + bt895.1), wrap64 (1 + bt888.1), bt895.2.1, bt895.2.2)))) else ((spec_l01Below.f s0_0 bt888.2.1 bt888.2.2 4).bind fun bt898 => (if bt885.1 = 1 then ((spec_l01Below.f s0_0 bt898.2.1 bt898.2.2 6).bind fun bt901 => (some (wrap64 (1 + bt879.1), bt885.1, wrap64 (1 + bt898.1), wrap64 (1 + bt901.1), wrap64 (1 + bt888.1), bt901.2.1, bt901.2.2))) else (some (wrap64 (1 + bt879.1), bt885.1, wrap64 (1 + bt898.1), 0, wrap64 (1 + bt888.1), bt898.2.1, bt898.2.2)))))))
set_option maxHeartbeats 4000000 in
set_option maxRecDepth 100000 in
theorem spec_l08Note.calls (g : Nat) (s0_0 : List Int) (s0_1 : Int) (s0_2 : Int) (r1 : Int) (r2 : Int) (r3 : Int) (r4 : Int) (r5 : Int) (r6 : Int) (r7 : Int) (w0 w : World) (hI : IsS98 w0 w g s0_0 s0_1 s0_2) (hB : Below w0.heap.size w0 w) (h : spec_l08Note.f s0_0 s0_1 s0_2 = some (r1, r2, r3, r4, r5, r6, r7)) :
  Calls Try.prog 98 #[.pointer (some ⟨g, 0, none⟩)] w fun e w' => e = .returned (.agg #[.int .i64 r1, .int .i64 r2, .int .i64 r3, .int .i64 r4, .int .i64 r5]) ∧ IsS98 w0 w' g s0_0 r6 r7 ∧ Below w0.heap.size w0 w' ∧ KeepBut w w' g none := by
 have hu25 := Try.underlying25
 have S0 := Aside0.mk (⟨hI, hB, KeepBut.refl w g none⟩ : spec_l08Note.St w0 w w g s0_0 s0_1 s0_2)
 clear hI hB
 unfold spec_l08Note.f at h
 obtain ⟨⟨n1, a1, b1⟩, A1, h⟩ := Option.bind_eq_some_iff.1 h
 obtain ⟨⟨n2, a2, b2⟩, A2, h⟩ := Option.bind_eq_some_iff.1 h
 obtain ⟨⟨n3, a3, b3⟩, A3, h⟩ := Option.bind_eq_some_iff.1 h
 have H1 := Aside0.mk A1
 have H2 := Aside0.mk A2
 have H3 := Aside0.mk A3
 have HH := Aside0.mk h
 clear A1 A2 A3 h
 go_enter Try.func98, Try.ntmps98
 go_upto_region 1 with (first | ((with_reducible refine gate_dst (N := 2) rfl ?_); refine box_event ?hg2 (N := 2) ?hd2 (cs := #[.int .i64 0, .int .i64 0, .int .i64 0, .int .i64 0, .int .i64 0]) (t := 25) ?hr2 ?_; (case hd2 => rfl); (case hg2 => rfl); (case hr2 => first | (go_simp; done) | (go_simp; rfl)); intro gb1 hg w1 hbox hb; have HX2 := Aside0.mk (⟨hg, hbox, hb⟩ : gb1 = _ ∧ _ ∧ _); clear hbox hb hg))
 obtain ⟨hg, hbox, hb⟩ := HX2.out
 have L1 := Aside0.mk (spec_l08Note.Lb.new S0.out hg hbox)
 have S1 := Aside0.mk (S0.out.below hb)
 clear hg hbox hb HX2 S0 
 go_wp2_with fail
 refine (spec_l01Below.calls g s0_0 s0_1 s0_2 24 n1 a1 b1 w0 w1 S1.out.I S1.out.B H1.out).mono ?_
 rintro e w2 ⟨rfl, hi, hb, hk⟩
 have S2 := Aside0.mk (S1.out.call hi hb hk)
 have L2 := Aside0.mk (L1.out.call hk)
 clear hi hb hk S1 L1 
 go_wp2_with (first | ((with_reducible refine gate_dst (N := 8) rfl ?_); refine Kd.R_lit (Kd.int .i64) _ 3 ?hg8 (N := 8) ?hd8 (xs := ([1, 1, 1, 2, 2, 3, 4] : List Int)) (inner := [.int .i64 1, .int .i64 1, .int .i64 1, .int .i64 2, .int .i64 2, .int .i64 3, .int .i64 4]) (ok := fun _ => True) (okp := fun _ => True) ?hr8 ?hp8 (fun _ hk => hk) trivial (Below.refl _ _) (Nat.le_refl _) (by simp) ?_; (case hd8 => rfl); (case hg8 => rfl); (case hr8 => first | (go_simp; done) | (go_simp; rfl)); (case hp8 => exact (Reps.one (show Kd.M (Kd.int .i64) _ _ _ 1 [.int .i64 1] from rfl) (Reps.one (show Kd.M (Kd.int .i64) _ _ _ 1 [.int .i64 1] from rfl) (Reps.one (show Kd.M (Kd.int .i64) _ _ _ 1 [.int .i64 1] from rfl) (Reps.one (show Kd.M (Kd.int .i64) _ _ _ 2 [.int .i64 2] from rfl) (Reps.one (show Kd.M (Kd.int .i64) _ _ _ 2 [.int .i64 2] from rfl) (Reps.one (show Kd.M (Kd.int .i64) _ _ _ 3 [.int .i64 3] from rfl) (Reps.one (show Kd.M (Kd.int .i64) _ _ _ 4 [.int .i64 4] from rfl) (Reps.none _ _))))))))); intro v8 w3 ho hb hg_ hnew_; clear hg_ hnew_; obtain ⟨A8, c8, e8⟩ := Kd.R_slice ho; subst e8; have S3 := Aside0.mk (S2.out.below hb); have L3 := Aside0.mk (L2.out.below hb); have HO8 := Aside0.mk ho; clear hb ho S2 L2))
 refine (spec_l01PickInt.calls g s0_0 a1 b1 A8 c8 [1, 1, 1, 2, 2, 3, 4] n2 a2 b2 w0 w3 S3.out.I S3.out.B (Kd.R_reads' HO8.out).2.2 (Kd.R_reads' HO8.out).2.1 (far_slice (IsS98.own_ne S3.out.I HO8.out (by decide))) H2.out).mono ?_
 rintro e w4 ⟨rfl, hi, hb, hk⟩
 have S4 := Aside0.mk (S3.out.call hi hb hk)
 have L4 := Aside0.mk (L3.out.call hk)
 clear hi hb hk S3 L3 HO8
 go_wp2_with fail
 refine (spec_l01Below.calls g s0_0 a2 b2 3 n3 a3 b3 w0 w4 S4.out.I S4.out.B H3.out).mono ?_
 rintro e w5 ⟨rfl, hi, hb, hk⟩
 have S5 := Aside0.mk (S4.out.call hi hb hk)
 have L5 := Aside0.mk (L4.out.call hk)
 clear hi hb hk S4 L4 
 go_upto_region 2 with (first | ((with_reducible refine gate_dst (N := 3) rfl ?_); refine box_event ?hg3 (N := 3) ?hd3 (cs := #[.int .i64 0, .int .i64 0, .int .i64 0, .int .i64 0, .int .i64 0]) (t := 25) ?hr3 ?_; (case hd3 => rfl); (case hg3 => rfl); (case hr3 => first | (go_simp; done) | (go_simp; rfl)); intro gb2 hg w6 hbox hb; have HX3 := Aside0.mk (⟨hg, hbox, hb⟩ : gb2 = _ ∧ _ ∧ _); have z0 : w6.cell? ⟨gb2, 0, none⟩ = some (.int .i64 0) := (blk_cell hbox 0).trans rfl; have y0 := blk_frozen hbox 0; have z1 : w6.cell? ⟨gb2, 1, none⟩ = some (.int .i64 0) := (blk_cell hbox 1).trans rfl; have y1 := blk_frozen hbox 1; have z2 : w6.cell? ⟨gb2, 2, none⟩ = some (.int .i64 0) := (blk_cell hbox 2).trans rfl; have y2 := blk_frozen hbox 2; have z3 : w6.cell? ⟨gb2, 3, none⟩ = some (.int .i64 0) := (blk_cell hbox 3).trans rfl; have y3 := blk_frozen hbox 3; have z4 : w6.cell? ⟨gb2, 4, none⟩ = some (.int .i64 0) := (blk_cell hbox 4).trans rfl; have y4 := blk_frozen hbox 4; clear hbox hb hg))
 clear z0 z1 z2 z3 z4 y0 y1 y2 y3 y4
 obtain ⟨hg, hbox, hb⟩ := HX3.out
 have M6 := Aside0.mk (spec_l08Note.Lb.new S5.out hg hbox)
 have HNE := Aside0.mk (by rw [hg]; exact Nat.ne_of_lt (blk_lt L5.out.blk) : gb1 ≠ gb2)
 have L6 := Aside0.mk (L5.out.below hb)
 have S6 := Aside0.mk (S5.out.below hb)
 clear hg hbox hb HX3 S5 L5
 obtain ⟨s_, m_⟩ := spec_l08Note.put S6.out M6.out (wrap64 (1 + n1)) (n2) (0) (0) (wrap64 (1 + n3))
 have l_ := L6.out.far5 HNE.out (.int .i64 (wrap64 (1 + n1))) (.int .i64 (n2)) (.int .i64 (0)) (.int .i64 (0)) (.int .i64 (wrap64 (1 + n3)))
 generalize (((((w6.setCell ⟨gb2, 0, none⟩ (.int .i64 (wrap64 (1 + n1)))).setCell ⟨gb2, 1, none⟩ (.int .i64 (n2))).setCell ⟨gb2, 2, none⟩ (.int .i64 (0))).setCell ⟨gb2, 3, none⟩ (.int .i64 (0))).setCell ⟨gb2, 4, none⟩ (.int .i64 (wrap64 (1 + n3)))) = w7 at s_ m_ l_ ⊢
 have S7 := Aside0.mk s_
 have M7 := Aside0.mk m_
 have L7 := Aside0.mk l_
 clear s_ m_ l_ S6 M6 L6
 have m0 : w7.cell? ⟨gb2, 0, none⟩ = some _ := (blk_cell M7.out.blk 0).trans rfl
 have m1 : w7.cell? ⟨gb2, 1, none⟩ = some _ := (blk_cell M7.out.blk 1).trans rfl
 have m2 : w7.cell? ⟨gb2, 2, none⟩ = some _ := (blk_cell M7.out.blk 2).trans rfl
 have m3 : w7.cell? ⟨gb2, 3, none⟩ = some _ := (blk_cell M7.out.blk 3).trans rfl
 have m4 : w7.cell? ⟨gb2, 4, none⟩ = some _ := (blk_cell M7.out.blk 4).trans rfl
 have mf0 := blk_frozen M7.out.blk 0
 have mf1 := blk_frozen M7.out.blk 1
 have mf2 := blk_frozen M7.out.blk 2
 have mf3 := blk_frozen M7.out.blk 3
 have mf4 := blk_frozen M7.out.blk 4
 have h := HH.out
 clear HH
 by_cases q4 : n2 = 4
 ·
  subst q4
  simp only [if_true, if_neg (show ¬ (4 : Int) = 1 by decide)] at h
  obtain ⟨⟨n4, a4, b4⟩, A4, h⟩ := Option.bind_eq_some_iff.1 h
  have H4 := Aside0.mk A4
  simp only [Option.some.injEq, Prod.mk.injEq] at h
  obtain ⟨rfl, rfl, rfl, rfl, rfl, rfl, rfl⟩ := h
  clear A4
  go_wp2_with fail
  refine (spec_l01Below.calls g s0_0 a3 b3 6 n4 a4 b4 w0 w7 S7.out.I S7.out.B H4.out).mono ?_
  rintro e w8 ⟨rfl, hi, hb, hk⟩
  have S8 := Aside0.mk (S7.out.call hi hb hk)
  have M8 := Aside0.mk (M7.out.call hk)
  have L8 := Aside0.mk (L7.out.call hk)
  clear hi hb hk S7 M7 L7 
  clear m0 mf0 m1 mf1 m2 mf2 m3 mf3 m4 mf4
  have m0 : w8.cell? ⟨gb2, 0, none⟩ = some _ := (blk_cell M8.out.blk 0).trans rfl
  have m1 : w8.cell? ⟨gb2, 1, none⟩ = some _ := (blk_cell M8.out.blk 1).trans rfl
  have m2 : w8.cell? ⟨gb2, 2, none⟩ = some _ := (blk_cell M8.out.blk 2).trans rfl
  have m3 : w8.cell? ⟨gb2, 3, none⟩ = some _ := (blk_cell M8.out.blk 3).trans rfl
  have m4 : w8.cell? ⟨gb2, 4, none⟩ = some _ := (blk_cell M8.out.blk 4).trans rfl
  have mf0 := blk_frozen M8.out.blk 0
  have mf1 := blk_frozen M8.out.blk 1
  have mf2 := blk_frozen M8.out.blk 2
  have mf3 := blk_frozen M8.out.blk 3
  have mf4 := blk_frozen M8.out.blk 4
  go_upto_region 6 with (fail)
  clear m0 mf0 m1 mf1 m2 mf2 m3 mf3 m4 mf4
  have s_ := S8.out.set M8.out.ge M8.out.gw M8.out.ne 3 (.int .i64 (wrap64 (1 + n4)))
  have m_ : spec_l08Note.Lb w0 w (w8.setCell ⟨gb2, 3, none⟩ (.int .i64 (wrap64 (1 + n4)))) g gb2 (wrap64 (1 + n1)) (4) (0) (wrap64 (1 + n4)) (wrap64 (1 + n3)) := ⟨blk_put M8.out.blk 3 _ rfl, M8.out.ge, M8.out.gw, M8.out.ne⟩
  have l_ := L8.out.far HNE.out 3 (.int .i64 (wrap64 (1 + n4)))
  generalize w8.setCell ⟨gb2, 3, none⟩ (.int .i64 (wrap64 (1 + n4))) = w9 at s_ m_ l_ ⊢
  have S9 := Aside0.mk s_
  have M9 := Aside0.mk m_
  have L9 := Aside0.mk l_
  clear s_ m_ l_ S8 M8 L8
  have m0 : w9.cell? ⟨gb2, 0, none⟩ = some _ := (blk_cell M9.out.blk 0).trans rfl
  have m1 : w9.cell? ⟨gb2, 1, none⟩ = some _ := (blk_cell M9.out.blk 1).trans rfl
  have m2 : w9.cell? ⟨gb2, 2, none⟩ = some _ := (blk_cell M9.out.blk 2).trans rfl
  have m3 : w9.cell? ⟨gb2, 3, none⟩ = some _ := (blk_cell M9.out.blk 3).trans rfl
  have m4 : w9.cell? ⟨gb2, 4, none⟩ = some _ := (blk_cell M9.out.blk 4).trans rfl
  have mf0 := blk_frozen M9.out.blk 0
  have mf1 := blk_frozen M9.out.blk 1
  have mf2 := blk_frozen M9.out.blk 2
  have mf3 := blk_frozen M9.out.blk 3
  have mf4 := blk_frozen M9.out.blk 4
  have l0 : w9.cell? ⟨gb1, 0, none⟩ = some _ := (blk_cell L9.out.blk 0).trans rfl
  have l1 : w9.cell? ⟨gb1, 1, none⟩ = some _ := (blk_cell L9.out.blk 1).trans rfl
  have l2 : w9.cell? ⟨gb1, 2, none⟩ = some _ := (blk_cell L9.out.blk 2).trans rfl
  have l3 : w9.cell? ⟨gb1, 3, none⟩ = some _ := (blk_cell L9.out.blk 3).trans rfl
  have l4 : w9.cell? ⟨gb1, 4, none⟩ = some _ := (blk_cell L9.out.blk 4).trans rfl
  have lf0 := blk_frozen L9.out.blk 0
  have lf1 := blk_frozen L9.out.blk 1
  have lf2 := blk_frozen L9.out.blk 2
  have lf3 := blk_frozen L9.out.blk 3
  have lf4 := blk_frozen L9.out.blk 4
  go_wp2
  obtain ⟨s_, l_⟩ := spec_l08Note.put S9.out L9.out (wrap64 (1 + n1)) (4) (0) (wrap64 (1 + n4)) (wrap64 (1 + n3))
  refine bodyPost_ret (results_cell_row rfl _ _ gb1 25 #[.int .i64 (wrap64 (1 + n1)), .int .i64 (4), .int .i64 (0), .int .i64 (wrap64 (1 + n4)), .int .i64 (wrap64 (1 + n3))] (0, 0) _ rfl l_.blk Try.underlying25 rfl (by kernel_rfl)) rfl ?_
  exact ⟨rfl, s_.I, s_.B, s_.K⟩
 ·
  rw [if_neg q4] at h
  obtain ⟨⟨n4, a4, b4⟩, A4, h⟩ := Option.bind_eq_some_iff.1 h
  have H4 := Aside0.mk A4
  have HH := Aside0.mk h
  clear A4 h
  have e4 : (n2 == 4) = false := beq_eq_false_iff_ne.2 q4
  have e4' : (n2 != 4) = true := bne_iff_ne.2 q4
  clear q4
  go_wp2_with fail
  refine (spec_l01Below.calls g s0_0 a3 b3 4 n4 a4 b4 w0 w7 S7.out.I S7.out.B H4.out).mono ?_
  rintro e w8 ⟨rfl, hi, hb, hk⟩
  have S8 := Aside0.mk (S7.out.call hi hb hk)
  have M8 := Aside0.mk (M7.out.call hk)
  have L8 := Aside0.mk (L7.out.call hk)
  clear hi hb hk S7 M7 L7 
  clear m0 mf0 m1 mf1 m2 mf2 m3 mf3 m4 mf4
  have m0 : w8.cell? ⟨gb2, 0, none⟩ = some _ := (blk_cell M8.out.blk 0).trans rfl
  have m1 : w8.cell? ⟨gb2, 1, none⟩ = some _ := (blk_cell M8.out.blk 1).trans rfl
  have m2 : w8.cell? ⟨gb2, 2, none⟩ = some _ := (blk_cell M8.out.blk 2).trans rfl
  have m3 : w8.cell? ⟨gb2, 3, none⟩ = some _ := (blk_cell M8.out.blk 3).trans rfl
  have m4 : w8.cell? ⟨gb2, 4, none⟩ = some _ := (blk_cell M8.out.blk 4).trans rfl
  have mf0 := blk_frozen M8.out.blk 0
  have mf1 := blk_frozen M8.out.blk 1
  have mf2 := blk_frozen M8.out.blk 2
  have mf3 := blk_frozen M8.out.blk 3
  have mf4 := blk_frozen M8.out.blk 4
  go_upto_region 4 with (fail)
  clear m0 mf0 m1 mf1 m2 mf2 m3 mf3 m4 mf4
  have s_ := S8.out.set M8.out.ge M8.out.gw M8.out.ne 2 (.int .i64 (wrap64 (1 + n4)))
  have m_ : spec_l08Note.Lb w0 w (w8.setCell ⟨gb2, 2, none⟩ (.int .i64 (wrap64 (1 + n4)))) g gb2 (wrap64 (1 + n1)) (n2) (wrap64 (1 + n4)) (0) (wrap64 (1 + n3)) := ⟨blk_put M8.out.blk 2 _ rfl, M8.out.ge, M8.out.gw, M8.out.ne⟩
  have l_ := L8.out.far HNE.out 2 (.int .i64 (wrap64 (1 + n4)))
  generalize w8.setCell ⟨gb2, 2, none⟩ (.int .i64 (wrap64 (1 + n4))) = w9 at s_ m_ l_ ⊢
  have S9 := Aside0.mk s_
  have M9 := Aside0.mk m_
  have L9 := Aside0.mk l_
  clear s_ m_ l_ S8 M8 L8
  have m0 : w9.cell? ⟨gb2, 0, none⟩ = some _ := (blk_cell M9.out.blk 0).trans rfl
  have m1 : w9.cell? ⟨gb2, 1, none⟩ = some _ := (blk_cell M9.out.blk 1).trans rfl
  have m2 : w9.cell? ⟨gb2, 2, none⟩ = some _ := (blk_cell M9.out.blk 2).trans rfl
  have m3 : w9.cell? ⟨gb2, 3, none⟩ = some _ := (blk_cell M9.out.blk 3).trans rfl
  have m4 : w9.cell? ⟨gb2, 4, none⟩ = some _ := (blk_cell M9.out.blk 4).trans rfl
  have mf0 := blk_frozen M9.out.blk 0
  have mf1 := blk_frozen M9.out.blk 1
  have mf2 := blk_frozen M9.out.blk 2
  have mf3 := blk_frozen M9.out.blk 3
  have mf4 := blk_frozen M9.out.blk 4
  have h := HH.out
  clear HH
  by_cases q1 : n2 = 1
  ·
   subst q1
   simp only [if_true] at h
   obtain ⟨⟨n5, a5, b5⟩, A5, h⟩ := Option.bind_eq_some_iff.1 h
   have H5 := Aside0.mk A5
   simp only [Option.some.injEq, Prod.mk.injEq] at h
   obtain ⟨rfl, rfl, rfl, rfl, rfl, rfl, rfl⟩ := h
   clear A5
   go_wp2_with fail
   refine (spec_l01Below.calls g s0_0 a4 b4 6 n5 a5 b5 w0 w9 S9.out.I S9.out.B H5.out).mono ?_
   rintro e wa ⟨rfl, hi, hb, hk⟩
   have Sa := Aside0.mk (S9.out.call hi hb hk)
   have Ma := Aside0.mk (M9.out.call hk)
   have La := Aside0.mk (L9.out.call hk)
   clear hi hb hk S9 M9 L9 
   clear m0 mf0 m1 mf1 m2 mf2 m3 mf3 m4 mf4
   have m0 : wa.cell? ⟨gb2, 0, none⟩ = some _ := (blk_cell Ma.out.blk 0).trans rfl
   have m1 : wa.cell? ⟨gb2, 1, none⟩ = some _ := (blk_cell Ma.out.blk 1).trans rfl
   have m2 : wa.cell? ⟨gb2, 2, none⟩ = some _ := (blk_cell Ma.out.blk 2).trans rfl
   have m3 : wa.cell? ⟨gb2, 3, none⟩ = some _ := (blk_cell Ma.out.blk 3).trans rfl
   have m4 : wa.cell? ⟨gb2, 4, none⟩ = some _ := (blk_cell Ma.out.blk 4).trans rfl
   have mf0 := blk_frozen Ma.out.blk 0
   have mf1 := blk_frozen Ma.out.blk 1
   have mf2 := blk_frozen Ma.out.blk 2
   have mf3 := blk_frozen Ma.out.blk 3
   have mf4 := blk_frozen Ma.out.blk 4
   go_upto_region 6 with (fail)
   clear m0 mf0 m1 mf1 m2 mf2 m3 mf3 m4 mf4
   have s_ := Sa.out.set Ma.out.ge Ma.out.gw Ma.out.ne 3 (.int .i64 (wrap64 (1 + n5)))
   have m_ : spec_l08Note.Lb w0 w (wa.setCell ⟨gb2, 3, none⟩ (.int .i64 (wrap64 (1 + n5)))) g gb2 (wrap64 (1 + n1)) (1) (wrap64 (1 + n4)) (wrap64 (1 + n5)) (wrap64 (1 + n3)) := ⟨blk_put Ma.out.blk 3 _ rfl, Ma.out.ge, Ma.out.gw, Ma.out.ne⟩
   have l_ := La.out.far HNE.out 3 (.int .i64 (wrap64 (1 + n5)))
   generalize wa.setCell ⟨gb2, 3, none⟩ (.int .i64 (wrap64 (1 + n5))) = wb at s_ m_ l_ ⊢
   have Sb := Aside0.mk s_
   have Mb := Aside0.mk m_
   have Lb_ := Aside0.mk l_
   clear s_ m_ l_ Sa Ma La
   have m0 : wb.cell? ⟨gb2, 0, none⟩ = some _ := (blk_cell Mb.out.blk 0).trans rfl
   have m1 : wb.cell? ⟨gb2, 1, none⟩ = some _ := (blk_cell Mb.out.blk 1).trans rfl
   have m2 : wb.cell? ⟨gb2, 2, none⟩ = some _ := (blk_cell Mb.out.blk 2).trans rfl
   have m3 : wb.cell? ⟨gb2, 3, none⟩ = some _ := (blk_cell Mb.out.blk 3).trans rfl
   have m4 : wb.cell? ⟨gb2, 4, none⟩ = some _ := (blk_cell Mb.out.blk 4).trans rfl
   have mf0 := blk_frozen Mb.out.blk 0
   have mf1 := blk_frozen Mb.out.blk 1
   have mf2 := blk_frozen Mb.out.blk 2
   have mf3 := blk_frozen Mb.out.blk 3
   have mf4 := blk_frozen Mb.out.blk 4
   have l0 : wb.cell? ⟨gb1, 0, none⟩ = some _ := (blk_cell Lb_.out.blk 0).trans rfl
   have l1 : wb.cell? ⟨gb1, 1, none⟩ = some _ := (blk_cell Lb_.out.blk 1).trans rfl
   have l2 : wb.cell? ⟨gb1, 2, none⟩ = some _ := (blk_cell Lb_.out.blk 2).trans rfl
   have l3 : wb.cell? ⟨gb1, 3, none⟩ = some _ := (blk_cell Lb_.out.blk 3).trans rfl
   have l4 : wb.cell? ⟨gb1, 4, none⟩ = some _ := (blk_cell Lb_.out.blk 4).trans rfl
   have lf0 := blk_frozen Lb_.out.blk 0
   have lf1 := blk_frozen Lb_.out.blk 1
   have lf2 := blk_frozen Lb_.out.blk 2
   have lf3 := blk_frozen Lb_.out.blk 3
   have lf4 := blk_frozen Lb_.out.blk 4
   go_wp2
   obtain ⟨s_, l_⟩ := spec_l08Note.put Sb.out Lb_.out (wrap64 (1 + n1)) (1) (wrap64 (1 + n4)) (wrap64 (1 + n5)) (wrap64 (1 + n3))
   refine bodyPost_ret (results_cell_row rfl _ _ gb1 25 #[.int .i64 (wrap64 (1 + n1)), .int .i64 (1), .int .i64 (wrap64 (1 + n4)), .int .i64 (wrap64 (1 + n5)), .int .i64 (wrap64 (1 + n3))] (0, 0) _ rfl l_.blk Try.underlying25 rfl (by kernel_rfl)) rfl ?_
   exact ⟨rfl, s_.I, s_.B, s_.K⟩
  ·
   rw [if_neg q1] at h
   simp only [Option.some.injEq, Prod.mk.injEq] at h
   obtain ⟨rfl, rfl, rfl, rfl, rfl, rfl, rfl⟩ := h
   have e1 : (n2 == 1) = false := beq_eq_false_iff_ne.2 q1
   clear q1
   go_upto_region 6 with (fail)
   clear m0 mf0 m1 mf1 m2 mf2 m3 mf3 m4 mf4
   have m0 : w9.cell? ⟨gb2, 0, none⟩ = some _ := (blk_cell M9.out.blk 0).trans rfl
   have m1 : w9.cell? ⟨gb2, 1, none⟩ = some _ := (blk_cell M9.out.blk 1).trans rfl
   have m2 : w9.cell? ⟨gb2, 2, none⟩ = some _ := (blk_cell M9.out.blk 2).trans rfl
   have m3 : w9.cell? ⟨gb2, 3, none⟩ = some _ := (blk_cell M9.out.blk 3).trans rfl
   have m4 : w9.cell? ⟨gb2, 4, none⟩ = some _ := (blk_cell M9.out.blk 4).trans rfl
   have mf0 := blk_frozen M9.out.blk 0
   have mf1 := blk_frozen M9.out.blk 1
   have mf2 := blk_frozen M9.out.blk 2
   have mf3 := blk_frozen M9.out.blk 3
   have mf4 := blk_frozen M9.out.blk 4
   have l0 : w9.cell? ⟨gb1, 0, none⟩ = some _ := (blk_cell L9.out.blk 0).trans rfl
   have l1 : w9.cell? ⟨gb1, 1, none⟩ = some _ := (blk_cell L9.out.blk 1).trans rfl
   have l2 : w9.cell? ⟨gb1, 2, none⟩ = some _ := (blk_cell L9.out.blk 2).trans rfl
   have l3 : w9.cell? ⟨gb1, 3, none⟩ = some _ := (blk_cell L9.out.blk 3).trans rfl
   have l4 : w9.cell? ⟨gb1, 4, none⟩ = some _ := (blk_cell L9.out.blk 4).trans rfl
   have lf0 := blk_frozen L9.out.blk 0
   have lf1 := blk_frozen L9.out.blk 1
   have lf2 := blk_frozen L9.out.blk 2
   have lf3 := blk_frozen L9.out.blk 3
   have lf4 := blk_frozen L9.out.blk 4
   go_wp2
   obtain ⟨s_, l_⟩ := spec_l08Note.put S9.out L9.out (wrap64 (1 + n1)) (n2) (wrap64 (1 + n4)) (0) (wrap64 (1 + n3))
   refine bodyPost_ret (results_cell_row rfl _ _ gb1 25 #[.int .i64 (wrap64 (1 + n1)), .int .i64 (n2), .int .i64 (wrap64 (1 + n4)), .int .i64 (0), .int .i64 (wrap64 (1 + n3))] (0, 0) _ rfl l_.blk Try.underlying25 rfl (by kernel_rfl)) rfl ?_
   exact ⟨rfl, s_.I, s_.B, s_.K⟩

end Go.Proofs.Ytppojihmllmgnaa.F

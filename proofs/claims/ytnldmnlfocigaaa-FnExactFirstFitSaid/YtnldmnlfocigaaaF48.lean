-- PRINTED by print.py (a twelfth state) out of the translation. Not trusted: Lean checks it.
import Derived.Test.YtnldmnlfocigaaaF
import Derived.Test.YtnldmnlfocigaaaF25
namespace Go.Proofs.Ytnldmnlfocigaaa.F
open Go.Proofs.Ytnldmnlfocigaaa.Opn
open Go.RowKit Go.Proofs.YtnldmnlfocigaaaW.PrintWords Go.Proofs.YtnldmnlfocigaaaW.PrintLast
set_option linter.unusedVariables false
set_option linter.unusedSimpArgs false

/-! ### laws_markBoxS: function 48 -/
def laws_markBoxS.l0 : Nat → List S62 → Int → Int → Option (Int × List S62)
  | 0, _, _, _ => none
  | k + 1, x0, x1, x5 => if x5 < (x0.length : Int) then (if 0 ≤ x5 then ((laws_markIntS.f k ((rd_T62 x0 x5).f2) (wrap64 ((wrap64 (x1 + 1)) + 1))).bind fun b => laws_markBoxS.l0 k (x0.set (x5 : Int).toNat (⟨x1, wrap64 (x1 + 1), b.2⟩ : S62)) b.1 (wrap64 (x5 + 1))) else none) else some (x1, x0)
def laws_markBoxS.f (k : Nat) (l0 : List S62) (a1 : Int) : Option (Int × List S62) := laws_markBoxS.l0 k l0 a1 0
theorem laws_markBoxS.mono_l : ∀ k, (∀ y0 y1 y2, LeO (laws_markBoxS.l0 k y0 y1 y2) (laws_markBoxS.l0 (k + 1) y0 y1 y2))
  | 0 => fun _ _ _ r h => by simp [laws_markBoxS.l0] at h
  | k + 1 => by
    have ih0 := laws_markBoxS.mono_l k
    intro y0 y1 y2
    unfold laws_markBoxS.l0
    exact LeO.ite (LeO.ite (LeO.bind (laws_markIntS.mono _ _ _) (fun _ => ih0 _ _ _)) (LeO.none _)) (LeO.refl _)
theorem laws_markBoxS.mono : ∀ a0 a1 k, LeO (laws_markBoxS.f k a0 a1) (laws_markBoxS.f (k + 1) a0 a1) := fun a0 a1 k => laws_markBoxS.mono_l k _ _ _
theorem laws_markBoxS.set3 (l : List S62) (n : Nat) (hn : n < l.length) (x y : S62) : (l.set n x).getD n z62 = x ∧ (l.set n x).set n y = l.set n y := ⟨by simp [List.getD_eq_getElem?_getD, hn], by rw [List.set_set]⟩
set_option maxHeartbeats 4000000 in
set_option maxRecDepth 100000 in
theorem laws_markBoxS.calls (k : Nat) (P0_ : Nat → Prop) (u9000_ : Value) (l0 : List S62) (a1 : Int) (r1 : Int) (r2 : List S62) (w0 w : World) (hB : Below w0.heap.size w0 w) (ho0 : Kd.S k62 62 w w0.heap.size P0_ u9000_ l0) (h : laws_markBoxS.f k l0 a1 = some (r1, r2)) :
    Calls Try.prog 48 #[u9000_, .int .i64 a1] w fun e w' => e = .returned (.int .i64 r1) ∧ Kd.S k62 62 w' w0.heap.size (fun k_ => (P0_ k_ ∨ w.heap.size ≤ k_)) u9000_ r2 ∧ Below w0.heap.size w0 w' ∧ Kept w w' (fun k_ => P0_ k_) := by
  have hu62 := Try.underlying62
  obtain ⟨A, c, rfl⟩ := Kd.S_slice ho0
  have hm : l0.length ≤ 9223372036854775807 := (Kd.S_reads' ho0).2.2.2.1
  have HM := Aside0.mk hm
  have HS0 := Aside0.mk ho0
  have HB0 := Aside0.mk hB
  have HH := Aside0.mk h
  clear ho0 hB h hm
  go_enter Try.func48, Try.ntmps48
  go_wp2
  go_loopg [1, 5] k (fun kq v1 v5 wr => ∃ (x1 x5 : Int) (row : List S62), v1 = .int .i64 x1 ∧ v5 = .int .i64 x5 ∧ Aside0 (laws_markBoxS.l0 kq row x1 x5 = some (r1, r2)) ∧ Aside0 (kq ≤ k) ∧ Aside0 (row.length = l0.length) ∧ Aside0 (Kd.S k62 62 wr w0.heap.size (fun k_ => P0_ k_ ∨ w.heap.size ≤ k_) (.slice A l0.length c) row) ∧ Aside0 (Below w0.heap.size w0 wr) ∧ Aside0 (Kept w wr (fun k_ => P0_ k_)))
  case atStart => exact ⟨a1, 0, l0, rfl, rfl, ⟨by have := HH.out; unfold laws_markBoxS.f at this; exact this⟩, ⟨Nat.le_refl _⟩, ⟨rfl⟩, ⟨Kd.S_mono HS0.out (fun _ hk => .inl hk)⟩, HB0, ⟨Kept.refl _ _⟩⟩
  case round =>
    clear HH HS0 HB0
    obtain ⟨x1, x5, row, rfl, rfl, HA, HK, HL, HS, HB, HKP⟩ := hrel
    cases gk with
    | zero => exact absurd HA.out (by simp [laws_markBoxS.l0])
    | succ k2 =>
      have H := HA.out
      clear HA
      simp only [laws_markBoxS.l0] at H
      have hl := HL.out
      by_cases q1 : x5 < (row.length : Int)
      · rw [if_pos q1] at H
        by_cases q0 : 0 ≤ x5
        · rw [if_pos q0] at H
          replace H := Option.bind_eq_some_iff.mp H
          obtain ⟨⟨b1, b2⟩, hcall, H⟩ := H
          have HN := Aside0.mk H
          have HC := Aside0.mk hcall
          clear H hcall
          have hnl : x5.toNat < row.length := by omega
          obtain ⟨g, cap, hA, hb1, hb2, _⟩ := Kd.S_form HS.out (by omega)
          injection hA with hA hn hc
          subst hA
          have q1' : x5 < (l0.length : Int) := by omega
          have BGE := Aside0.mk hb1
          have HNL := Aside0.mk hnl
          have d1 : decide (x5 < (l0.length : Int)) = true := decide_eq_true q1'
          have d2 : decide (0 ≤ x5) = true := decide_eq_true q0
          have Q0 := Aside0.mk q0
          have Q1 := Aside0.mk q1'
          have t0 := eq_true q0
          have t1 := eq_true q1'
          clear hb1 hb2 hn hc q0 q1 q1' hnl hl
          obtain ⟨okb, ce, hcl, hM, hcc, hfr, hokb, hH⟩ := Kd.S_elem HS.out z62 x5 Q0.out Q1.out
          obtain ⟨ve, rfl, ge⟩ := k62_openM hM
          have hs := Kd.S_seg0 hH Q0.out Q1.out (seg := [.int .i64 x1]) (j := 0) (show 1 ≤ 3 from by decide) (x' := (⟨x1, (row.getD x5.toNat z62).f1, (row.getD x5.toNat z62).f2⟩ : S62)) (k62_mkM _ _ _ (⟨x1, (row.getD x5.toNat z62).f1, (row.getD x5.toNat z62).f2⟩ : S62) ge) (fun _ hk => hk)
          have hx0 := hcc 0 _ rfl
          have hf0 := hfr 0
          simp only [show (k62).sz = 3 from rfl, Nat.add_zero] at hx0 hf0 hs
          have HS1 := Aside0.mk hs
          clear hcl hM hcc hfr hokb hH ge hs
          go_upto_region 6 with (first | ((with_reducible refine gate_store (t := 3) (p := 16) rfl ?_); refine store_event (t := 3) (p := 16) (v := ?vo) (w1 := wr.setCell ⟨g, x5.toNat * 3, none⟩ (.int .i64 x1)) ?hg ?ho ?hn ?hr ?_; (case ho => rfl); (case hg => rfl); (case hn => rfl); (case hr => first | (go_simp; done) | (go_simp; rfl)); intro w2 hw; have N1 := Aside0.mk (by rw [hw]; exact HS1.out.2 : wr.grownBy w2 (some g)); have N2 := Aside0.mk (by rw [hw]; exact HS1.out.1 : Kd.S k62 62 w2 w0.heap.size (fun k_ => P0_ k_ ∨ w.heap.size ≤ k_) (.slice (some ⟨g, 0, none⟩) l0.length c) (row.set x5.toNat ⟨x1, (row.getD x5.toNat z62).f1, (row.getD x5.toNat z62).f2⟩)); have N3 := Aside0.mk (by rw [hw]; exact below_set HB.out BGE.out : Below w0.heap.size w0 w2); clear hw))
          clear hx0 hf0 HS1
          have HK1 := Aside0.mk (Kept.of_grown N1.out HKP.out (fun k_ hk => by injection hk with hk; subst hk; exact (Kd.S_R HS.out).1 g rfl))
          obtain ⟨g1, g2⟩ := laws_markBoxS.set3 row x5.toNat HNL.out ⟨x1, (row.getD x5.toNat z62).f1, (row.getD x5.toNat z62).f2⟩ ⟨x1, wrap64 (x1 + 1), (row.getD x5.toNat z62).f2⟩
          obtain ⟨okb, ce, hcl, hM, hcc, hfr, hokb, hH⟩ := Kd.S_elem N2.out z62 x5 Q0.out Q1.out
          rw [g1] at hM
          obtain ⟨ve, rfl, ge⟩ := k62_openM hM
          have hs := Kd.S_seg0 hH Q0.out Q1.out (seg := [.int .i64 (wrap64 (x1 + 1))]) (j := 1) (show 2 ≤ 3 from by decide) (x' := (⟨x1, wrap64 (x1 + 1), (row.getD x5.toNat z62).f2⟩ : S62)) (k62_mkM _ _ _ (⟨x1, wrap64 (x1 + 1), (row.getD x5.toNat z62).f2⟩ : S62) ge) (fun _ hk => hk)
          have hx0 := hcc 1 _ rfl
          have hf0 := hfr 1
          rw [g2] at hs
          simp only [show (k62).sz = 3 from rfl, Nat.add_zero] at hx0 hf0 hs
          have HS1 := Aside0.mk hs
          have HOK := Aside0.mk ((Kd.S_R N2.out).1 g rfl)
          clear hcl hM hcc hfr hokb hH ge hs g1 g2
          go_upto_region 8 with (first | ((with_reducible refine gate_store (t := 3) (p := 23) rfl ?_); refine store_event (t := 3) (p := 23) (v := ?vo2) (w1 := w2.setCell ⟨g, x5.toNat * 3 + 1, none⟩ (.int .i64 (wrap64 (x1 + 1)))) ?hg ?ho ?hn ?hr ?_; (case ho => rfl); (case hg => rfl); (case hn => rfl); (case hr => first | (go_simp; done) | (go_simp; rfl)); intro w3 hw; have M1 := Aside0.mk (by rw [hw]; exact HS1.out.2 : w2.grownBy w3 (some g)); have M2 := Aside0.mk (by rw [hw]; exact HS1.out.1 : Kd.S k62 62 w3 w0.heap.size (fun k_ => P0_ k_ ∨ w.heap.size ≤ k_) (.slice (some ⟨g, 0, none⟩) l0.length c) (row.set x5.toNat ⟨x1, wrap64 (x1 + 1), (row.getD x5.toNat z62).f2⟩)); have M3 := Aside0.mk (by rw [hw]; exact below_set N3.out BGE.out : Below w0.heap.size w0 w3); clear hw))
          clear hx0 hf0 HS1
          have HK2 := Aside0.mk (Kept.of_grown M1.out HK1.out (fun k_ hk => by injection hk with hk; subst hk; exact HOK.out))
          clear N1 N2 N3 M1 HK1 HKP HS HB
          obtain ⟨g1, g2⟩ := laws_markBoxS.set3 row x5.toNat HNL.out ⟨x1, wrap64 (x1 + 1), (row.getD x5.toNat z62).f2⟩ ⟨x1, wrap64 (x1 + 1), b2⟩
          obtain ⟨okb, ce, hcl, hM, hcc, hfr, hokb, hH⟩ := Kd.S_elem M2.out z62 x5 Q0.out Q1.out
          rw [g1] at hM
          obtain ⟨ve, rfl, ge⟩ := k62_openM hM
          obtain ⟨A2, c2, rfl⟩ := Kd.R_slice ge
          have HCALL := Aside0.mk (laws_markIntS.calls k2 okb (.slice A2 (row.getD x5.toNat z62).f2.length c2) (row.getD x5.toNat z62).f2 (wrap64 (wrap64 (x1 + 1) + 1)) b1 b2 w0 w3 M3.out ge (by have := HC.out; simpa only [rd_T62] using this))
          have hx2 := hcc 2 _ rfl
          have hx0 := hcc 0 _ rfl
          have hx1 := hcc 1 _ rfl
          simp only [show (k62).sz = 3 from rfl, Nat.add_zero] at hx0 hx1 hx2
          have HG := Aside0.mk ge.1
          have HHH := Aside0.mk hH
          have HOKB := Aside0.mk hokb
          clear hcl hM hcc hfr hokb hH ge
          go_wp2_with fail
          refine HCALL.out.mono ?_
          rintro e w4 ⟨rfl, h1, h2, h3⟩
          have back := Kd.H_back (Kd.H_step HHH.out (fun k_ _ hn hlt => h3.2 k_ hlt hn)) (k62_mkM _ _ _ (⟨x1, wrap64 (x1 + 1), b2⟩ : S62) (Kd.R_reok rfl h1 (fun k_ hk => HG.out k_ hk))) (fun _ hk => hk)
          rw [g2] at back
          have R1 := Aside0.mk back
          have R2 := Aside0.mk h2
          have R3 := Aside0.mk (HK2.out.then_ h3 (fun k_ hk => (HOKB.out k_ hk).1))
          clear back h1 h2 h3 hx0 hx1 hx2
          go_wp2
          go_roundg k2
          case measure => have := HK.out; omega
          case rel => exact ⟨b1, wrap64 (x5 + 1), row.set x5.toNat ⟨x1, wrap64 (x1 + 1), b2⟩, rfl, rfl, HN, ⟨by have := HK.out; omega⟩, ⟨by rw [List.length_set]; exact HL.out⟩, R1, R2, R3⟩
        · rw [if_neg q0] at H
          cases H
      · rw [if_neg q1] at H
        have he := Option.some.inj H
        simp only [Prod.mk.injEq] at he
        obtain ⟨rfl, rfl⟩ := he
        have d1 : decide (x5 < (l0.length : Int)) = false := decide_eq_false (by omega)
        clear q1 hl
        go_wp2
        go_ret
        exact ⟨rfl, HS.out, HB.out, HKP.out⟩

end Go.Proofs.Ytnldmnlfocigaaa.F

-- PRINTED by print.py (a twelfth state) out of the translation. Not trusted: Lean checks it.
import Derived.Test.YtnldmnlfocigaaaF
import Derived.Test.YtnldmnlfocigaaaF32
import Derived.Test.YtnldmnlfocigaaaF34
import Derived.Test.YtnldmnlfocigaaaF36
import Derived.Test.YtnldmnlfocigaaaF38
import Derived.Test.YtnldmnlfocigaaaF44
import Derived.Test.YtnldmnlfocigaaaF45
import Derived.Test.YtnldmnlfocigaaaF46
import Derived.Test.YtnldmnlfocigaaaF47
import Derived.Test.YtnldmnlfocigaaaF48
import Derived.Test.YtnldmnlfocigaaaF49
namespace Go.Proofs.Ytnldmnlfocigaaa.F
open Go.Proofs.Ytnldmnlfocigaaa.Opn
open Go.RowKit Go.Proofs.YtnldmnlfocigaaaW.PrintWords Go.Proofs.YtnldmnlfocigaaaW.PrintLast
set_option linter.unusedVariables false
set_option linter.unusedSimpArgs false

/-! ### laws_FnExactFirstFit: function 11 -/
def laws_FnExactFirstFit.f (k : Nat) (a0_0 : Int) (a0_1 : Int) (l1 : List S82) : Option Bool := (laws_szPieceS.f l1 1048576).bind fun t => if t < 0 then some true else (laws_toLimits.f a0_0 a0_1).bind fun bm => (laws_toPieceS.f k l1).bind fun ps => (spec_FirstFit.f k bm.1 bm.2 ps).bind fun wb => (impl_FirstFit.f k bm.1 bm.2 ps).bind fun gb => (laws_markPieceS.f k ps 1).bind fun bp => (laws_markBoxS.f k gb 1).bind fun bg => if laws_eqBoxS.f k gb wb = some true ∧ laws_eqPieceS.f k ps ps = some true ∧ 0 ≤ bp.1 ∧ laws_heldBoxS.f k bg.2 1 = some bg.1 ∧ 0 ≤ bg.1 then some true else none
set_option maxHeartbeats 8000000 in
set_option maxRecDepth 100000 in
theorem laws_FnExactFirstFit.calls (k : Nat) (a0_0 : Int) (a0_1 : Int) (A1 : Option Addr) (c1 : Nat) (l1 : List S82) (r : Bool) (w : World) (hr1 : Kd.C k82 w A1 l1.length l1) (hc1 : l1.length ≤ c1) (h : laws_FnExactFirstFit.f k a0_0 a0_1 l1 = some r) :
    Calls Try.prog 11 #[.agg #[.int .i64 a0_0, .int .i64 a0_1], .slice A1 l1.length c1] w fun e w' => e = .returned (.bool r) ∧ Below w.heap.size w w' := by
  obtain ⟨t, hsz, h⟩ := Option.bind_eq_some_iff.1 h
  have HR1 := Aside0.mk hr1
  have HC1 := Aside0.mk hc1
  have HSZ := Aside0.mk hsz
  have HH := Aside0.mk h
  clear hr1 hc1 hsz h
  go_enter Try.func11, Try.ntmps11
  go_upto_region 2 with (first
    | ((with_reducible refine gate_dst (N := 2) rfl ?_); refine box_event ?hg (N := 2) ?hd (cs := #[.int .i64 a0_0, .int .i64 a0_1]) (t := 47) ?hr ?_; (case hd => rfl); (case hg => rfl); (case hr => first | (go_simp; done) | (go_simp; rfl)); intro B hg w1 hbox hb; have HB1 := Aside0.mk hb; have BK := Aside0.mk hbox; clear hb hbox hg))
  (try simp only [Act.put, List.setIfInBounds_toArray, List.set_cons_zero, List.set_cons_succ])
  go_wp2_with fail
  refine (laws_szPieceS.calls A1 c1 l1 1048576 t w1 (Kd.C_below HR1.out HB1.out) HC1.out HSZ.out).mono ?_
  rintro e w' ⟨rfl, n1, rfl⟩
  have HB2 := Aside0.mk (pw_below_drewN HB1.out n1)
  have BK2 := Aside0.mk (blk_drewN BK.out n1)
  clear HB1 BK
  generalize w1.drewN n1 = w2 at HB2 BK2 ⊢
  by_cases ht : t < 0
  · have d1 : decide (t < 0) = true := decide_eq_true ht
    have hh := HH.out
    rw [if_pos ht] at hh
    obtain rfl := Option.some.inj hh
    clear ht hh
    go_wp2
    go_ret
    exact ⟨rfl, HB2.out⟩
  · have d1 : decide (t < 0) = false := decide_eq_false ht
    have hh := HH.out
    rw [if_neg ht] at hh
    clear HH ht
    obtain ⟨⟨m0, m1⟩, hlim, hh⟩ := Option.bind_eq_some_iff.1 hh
    obtain ⟨ps, hps, hh⟩ := Option.bind_eq_some_iff.1 hh
    obtain ⟨wb, hwb, hh⟩ := Option.bind_eq_some_iff.1 hh
    obtain ⟨gb, hgb, hh⟩ := Option.bind_eq_some_iff.1 hh
    obtain ⟨⟨p1, p2⟩, hmp, hh⟩ := Option.bind_eq_some_iff.1 hh
    obtain ⟨⟨g1, g2⟩, hmb, hh⟩ := Option.bind_eq_some_iff.1 hh
    by_cases hc : laws_eqBoxS.f k gb wb = some true ∧ laws_eqPieceS.f k ps ps = some true ∧ 0 ≤ p1 ∧ laws_heldBoxS.f k g2 1 = some g1 ∧ 0 ≤ g1
    · replace hh : some true = some r := by rw [← hh]; exact (if_pos hc).symm
      obtain ⟨he1, he2, hn1, hq, hn2⟩ := hc
      obtain rfl := Option.some.inj hh
      have d2 : decide (p1 < 0) = false := decide_eq_false (by omega)
      have d3 : decide (g1 < 0) = false := decide_eq_false (by omega)
      have d4 : (g1 != g1) = false := by simp
      have LIM := Aside0.mk hlim
      have PS := Aside0.mk hps
      have WB := Aside0.mk hwb
      have GB := Aside0.mk hgb
      have MP := Aside0.mk hmp
      have MB := Aside0.mk hmb
      have E1 := Aside0.mk he1
      have E2 := Aside0.mk he2
      have HQ := Aside0.mk hq
      clear hlim hps hwb hgb hmp hmb he1 he2 hq hn1 hn2 hh HSZ
      have b0 : w2.cell? ⟨B, 0, none⟩ = some (.int .i64 a0_0) := (blk_cell BK2.out 0).trans rfl
      have b1 : w2.cell? ⟨B, 1, none⟩ = some (.int .i64 a0_1) := (blk_cell BK2.out 1).trans rfl
      go_wp2_with fail
      refine (laws_toLimits.calls a0_0 a0_1 m0 m1 w2 LIM.out).mono ?_
      rintro e w3 ⟨rfl, hb⟩
      have HB3 := Aside0.mk (below_step HB2.out hb)
      have BK3 := Aside0.mk (blk_below BK2.out hb)
      clear hb b0 b1 HB2 BK2
      go_wp2_with fail
      refine (laws_toPieceS.calls k A1 c1 l1 ps w3 (Kd.C_below HR1.out HB3.out) HC1.out PS.out).mono ?_
      rintro e w4 ⟨v4, rfl, ho, hb⟩
      obtain ⟨A4, c4, rfl⟩ := Kd.R_slice ho
      have X4 := Aside0.mk (Kd.R_reads' ho).2
      have HB4 := Aside0.mk (below_step HB3.out hb)
      have BK4 := Aside0.mk (blk_below BK3.out hb)
      clear ho hb HB3 BK3
      go_wp2_with fail
      refine (spec_FirstFit.calls k m0 m1 A4 c4 ps wb w4 X4.out.2 X4.out.1 WB.out).mono ?_
      rintro e w5 ⟨v5, rfl, ho, hb⟩
      obtain ⟨A5, c5, rfl⟩ := Kd.N_slice ho
      have CW := Aside0.mk (Kd.N_reads' ho).2
      have HB5 := Aside0.mk (below_step HB4.out hb)
      have BK5 := Aside0.mk (blk_below BK4.out hb)
      clear ho hb HB4 BK4 X4
      go_wp2_with fail
      refine (laws_toPieceS.calls k A1 c1 l1 ps w5 (Kd.C_below HR1.out HB5.out) HC1.out PS.out).mono ?_
      rintro e w6 ⟨v6, rfl, ho, hb⟩
      obtain ⟨A6, c6, rfl⟩ := Kd.R_slice ho
      have X6 := Aside0.mk (Kd.R_mono (Kd.R_bound ho) (fun k_ hk => (hk.2.2.1 : k_ < w6.heap.size)))
      have B56 := Aside0.mk hb
      have BK6 := Aside0.mk (blk_below BK5.out hb)
      clear ho hb
      have b0 : w6.cell? ⟨B, 0, none⟩ = some (.int .i64 a0_0) := (blk_cell BK6.out 0).trans rfl
      have b1 : w6.cell? ⟨B, 1, none⟩ = some (.int .i64 a0_1) := (blk_cell BK6.out 1).trans rfl
      go_wp2_with fail
      refine (laws_toLimits.calls a0_0 a0_1 m0 m1 w6 LIM.out).mono ?_
      rintro e w7 ⟨rfl, hb⟩
      have B57 := Aside0.mk (below_step B56.out hb)
      have X7 := Aside0.mk (Kd.R_below X6.out hb)
      have S67 := Aside0.mk (below_size hb)
      clear hb b0 b1 B56 X6 BK6
      go_wp2_with fail
      refine (impl_FirstFit.calls k m0 m1 A6 c6 ps gb w7 (Kd.R_reads' X7.out).2.2 (Kd.R_reads' X7.out).2.1 GB.out).mono ?_
      rintro e w8 ⟨v8, rfl, ho, hb⟩
      obtain ⟨A8, c8, rfl⟩ := Kd.S_slice ho
      have G8 := Aside0.mk (Kd.S_lower (Kd.S_mono (Kd.S_bound ho) (fun k_ hk => (hk.2.1 : w7.heap.size ≤ k_))) (below_size B57.out))
      have B58 := Aside0.mk (below_step B57.out hb)
      have X8 := Aside0.mk (Kd.R_below X7.out hb)
      clear ho hb B57 X7
      go_wp2_with fail
      refine (laws_eqBoxS.calls k A8 c8 gb A5 c5 wb true w8 (Kd.S_reads' G8.out).2.2 (Kd.S_reads' G8.out).2.1 (Kd.C_below CW.out.2 B58.out) CW.out.1 E1.out).mono ?_
      rintro e w9 ⟨rfl, hb⟩
      have B59 := Aside0.mk (below_step B58.out hb)
      have X9 := Aside0.mk (Kd.R_below X8.out hb)
      have G9 := Aside0.mk (Kd.S_below G8.out hb)
      clear hb B58 X8 G8
      go_wp2_with fail
      refine (laws_toPieceS.calls k A1 c1 l1 ps w9 (Kd.C_below HR1.out (below_step HB5.out B59.out)) HC1.out PS.out).mono ?_
      rintro e w10 ⟨v10, rfl, ho, hb⟩
      obtain ⟨A10, c10, rfl⟩ := Kd.R_slice ho
      have Y10 := Aside0.mk (Kd.R_reads' ho).2
      have B510 := Aside0.mk (below_step B59.out hb)
      have X10 := Aside0.mk (Kd.R_below X9.out hb)
      have G10 := Aside0.mk (Kd.S_below G9.out hb)
      clear ho hb B59 X9 G9
      go_wp2_with fail
      refine (laws_eqPieceS.calls k A6 c6 ps A10 c10 ps true w10 (Kd.R_reads' X10.out).2.2 (Kd.R_reads' X10.out).2.1 Y10.out.2 Y10.out.1 E2.out).mono ?_
      rintro e w11 ⟨rfl, hb⟩
      have B511 := Aside0.mk (below_step B510.out hb)
      have X11 := Aside0.mk (Kd.R_below X10.out hb)
      have G11 := Aside0.mk (Kd.S_below G10.out hb)
      clear hb B510 X10 G10 Y10
      go_wp2_with fail
      refine (laws_markPieceS.calls k (fun k_ => k_ < w6.heap.size) (.slice A6 ps.length c6) ps 1 p1 p2 w5 w11 B511.out X11.out MP.out).mono ?_
      rintro e w12 ⟨rfl, _, hb, hk⟩
      have B512 := Aside0.mk hb
      have G12 := Aside0.mk (Kd.S_step G11.out (fun k_ hok hlt => hk.2 k_ hlt (fun hx => by have := S67.out; have : w7.heap.size ≤ k_ := hok; have : k_ < w6.heap.size := hx; omega)))
      clear hb hk B511 X11 G11
      go_wp2_with fail
      refine (laws_eqBoxS.calls k A8 c8 gb A5 c5 wb true w12 (Kd.S_reads' G12.out).2.2 (Kd.S_reads' G12.out).2.1 (Kd.C_below CW.out.2 B512.out) CW.out.1 E1.out).mono ?_
      rintro e w13 ⟨rfl, hb⟩
      have B513 := Aside0.mk (below_step B512.out hb)
      have G13 := Aside0.mk (Kd.S_below G12.out hb)
      clear hb B512 G12
      go_wp2_with fail
      refine (laws_markBoxS.calls k (fun k_ => w7.heap.size ≤ k_) (.slice A8 gb.length c8) gb 1 g1 g2 w5 w13 B513.out G13.out MB.out).mono ?_
      rintro e w14 ⟨rfl, ho, hb, _⟩
      have hlen := (Kd.S_reads' ho).1
      rw [hlen] at ho
      have G14 := Aside0.mk ho
      have B514 := Aside0.mk hb
      have HLEN := Aside0.mk hlen
      clear ho hb B513 G13 hlen
      have HQC := laws_heldBoxS.calls k A8 c8 g2 1 g1 w14 (Kd.S_reads' G14.out).2.2 (Kd.S_reads' G14.out).2.1 HQ.out
      rw [← HLEN.out] at HQC
      have HQD := Aside0.mk HQC
      clear HQC
      go_wp2_with fail
      refine HQD.out.mono ?_
      rintro e w' ⟨rfl, n2, rfl⟩
      have B515 := Aside0.mk (pw_below_drewN B514.out n2)
      have G15 := Aside0.mk (Kd.S_drewN G14.out n2)
      clear HQD B514 G14
      generalize w14.drewN n2 = w15 at B515 G15 ⊢
      have BK15 := Aside0.mk (blk_below BK5.out B515.out)
      have b0 : w15.cell? ⟨B, 0, none⟩ = some (.int .i64 a0_0) := (blk_cell BK15.out 0).trans rfl
      have b1 : w15.cell? ⟨B, 1, none⟩ = some (.int .i64 a0_1) := (blk_cell BK15.out 1).trans rfl
      go_wp2_with fail
      refine (laws_toLimits.calls a0_0 a0_1 m0 m1 w15 LIM.out).mono ?_
      rintro e w16 ⟨rfl, hb⟩
      have B516 := Aside0.mk (below_step B515.out hb)
      have G16 := Aside0.mk (Kd.S_below G15.out hb)
      clear hb b0 b1 B515 G15 BK15
      go_wp2_with fail
      refine (laws_toPieceS.calls k A1 c1 l1 ps w16 (Kd.C_below HR1.out (below_step HB5.out B516.out)) HC1.out PS.out).mono ?_
      rintro e w17 ⟨v17, rfl, ho, hb⟩
      obtain ⟨A17, c17, rfl⟩ := Kd.R_slice ho
      have Y17 := Aside0.mk (Kd.R_reads' ho).2
      have B517 := Aside0.mk (below_step B516.out hb)
      have G17 := Aside0.mk (Kd.S_below G16.out hb)
      clear ho hb B516 G16
      go_wp2_with fail
      refine (impl_FirstFit.calls k m0 m1 A17 c17 ps gb w17 Y17.out.2 Y17.out.1 GB.out).mono ?_
      rintro e w18 ⟨v18, rfl, ho, hb⟩
      obtain ⟨A18, c18, rfl⟩ := Kd.S_slice ho
      have Y18 := Aside0.mk (Kd.S_reads' ho).2
      have B518 := Aside0.mk (below_step B517.out hb)
      have G18 := Aside0.mk (Kd.S_below G17.out hb)
      clear ho hb B517 G17 Y17
      go_wp2_with fail
      refine (laws_eqBoxS.calls k A18 c18 gb A5 c5 wb true w18 Y18.out.2 Y18.out.1 (Kd.C_below CW.out.2 B518.out) CW.out.1 E1.out).mono ?_
      rintro e w19 ⟨rfl, hb⟩
      have B519 := Aside0.mk (below_step B518.out hb)
      have G19 := Aside0.mk (Kd.S_below G18.out hb)
      clear hb B518 G18 Y18
      have HQC := laws_heldBoxS.calls k A8 c8 g2 1 g1 w19 (Kd.S_reads' G19.out).2.2 (Kd.S_reads' G19.out).2.1 HQ.out
      rw [← HLEN.out] at HQC
      have HQD := Aside0.mk HQC
      clear HQC
      go_wp2_with fail
      refine HQD.out.mono ?_
      rintro e w' ⟨rfl, n3, rfl⟩
      have B520 := Aside0.mk (pw_below_drewN B519.out n3)
      clear HQD
      go_wp2
      go_ret
      exact ⟨rfl, below_step HB5.out B520.out⟩
    · exact absurd hh (by rw [show (if laws_eqBoxS.f k gb wb = some true ∧ laws_eqPieceS.f k ps ps = some true ∧ 0 ≤ p1 ∧ laws_heldBoxS.f k g2 1 = some g1 ∧ 0 ≤ g1 then some true else none) = (none : Option Bool) from if_neg hc]; simp)

end Go.Proofs.Ytnldmnlfocigaaa.F

/- FnPacked, as a pure law. No condition. -/
import Derived.Test.YtcfbjloblbhdhaaPXok2
import Derived.Test.YtcfbjloblbhdhaaPQdraw
import Derived.Test.YtcfbjloblbhdhaaStFnPacked
import Derived.Test.YtcfbjloblbhdhaaDFnAdded
import Derived.Test.YtcfbjloblbhdhaaDFnExactRepack
import Derived.Test.YtcfbjloblbhdhaaDFnPacked
namespace Go.Proofs.Ytcfbjloblbhdhaa.Eng
set_option linter.unusedVariables false
set_option linter.unusedSimpArgs false
theorem d_pieces {k : Nat} (hk : K0 ≤ k) {c : Cur} (hc : Cok c) : ∃ l c', spec_l07Pieces.f k c 8 = some (l, c', ()) ∧ PiecesP l ∧ l.length ≤ 8 ∧ Cok c' := by
  obtain ⟨x, c1, e1, a1, b1, _, h1⟩ := d_below k 9 hc
  have b1 := b1 (by omega)
  have e1' : spec_l01Below.f k (c.1, c.2.1, c.2.2.1, ()) 9 = some (x, c1, ()) := e1
  have hadd : addI .i64 8 1 = 9 := by decide
  obtain ⟨n, rfl⟩ := Int.eq_ofNat_of_zero_le a1
  have hk' := hk
  unfold K0 at hk'
  unfold spec_l07Pieces.f
  rw [hadd, e1', bnd_s]
  refine loop_msr (P := fun r => ∃ (l : List Pc) (c' : Cur), r = some (l, c', ()) ∧ PiecesP l ∧ l.length ≤ 8 ∧ Cok c') (fun f s => ∃ (c : Cur) (l : List Pc), s = (c.1, c.2.1, c.2.2.1, l, (f : Int), ()) ∧ Cok c ∧ PiecesP l ∧ l.length + f ≤ 8 ∧ ∀ p ∈ l, p.1 ≤ 2 * (l.length : Int)) ?_ (f := n) ⟨c1, [], rfl, h1, ⟨by simp, fun p hp => by simp at hp, by simp⟩, by simp; omega, fun p hp => by simp at hp⟩ (by omega)
  rintro f s rec ⟨c, l, rfl, hc, hl, hn, hb⟩
  cases f with
  | zero => exact .inl ⟨l, c, by simp (disch := omega) only [lett_e, bnd_s, bnd_chk, br_not, br_t, br_f, br_T, br_F, not_true_eq_false, not_false_eq_true, chk_T, chk_F, chk_eq, eqI_dc, ltI_dc, leI_dc, eqN_dc, notB_dc, andB_dc, andB_t, eqB_dc, notB_t, notB_f, inR_dc, upR_dc, ln_e, app_e, tk_e, dp_e, upd_e, repl_e, natI_n, br_pos, br_neg, addI_n, fitN_T] <;> rfl, hl, by omega, hc⟩
  | succ f =>
    obtain ⟨y1, d1, g1, r1, t1, _, u1⟩ := d_below k 2 hc
    obtain ⟨y2, d2, g2, r2, u2⟩ := d_pick k [(1, ()), (7, ()), (15, ()), (20, ()), (23, ()), (30, ()), (31, ()), (45, ()), (60, ())] (by simp) u1
    obtain ⟨y3, d3, g3, r3, u3⟩ := d_pick k [(0, ()), (0, ()), (0, ()), (1, ()), (2, ()), (5, ())] (by simp) u2
    have t1 := t1 (by omega)
    have g1' : spec_l01Below.f k (c.1, c.2.1, c.2.2.1, ()) 2 = some (y1, d1, ()) := g1
    have g2' : spec_l01PickInt.f k (d1.1, d1.2.1, d1.2.2.1, ()) [(1, ()), (7, ()), (15, ()), (20, ()), (23, ()), (30, ()), (31, ()), (45, ()), (60, ())] = some (y2, d2, ()) := g2
    have g3' : spec_l01PickInt.f k (d2.1, d2.2.1, d2.2.2.1, ()) [(0, ()), (0, ()), (0, ()), (1, ()), (2, ()), (5, ())] = some (y3, d3, ()) := g3
    have hy2 : 1 ≤ y2 ∧ y2 ≤ 60 := by simp at r2; omega
    have hy3 : 0 ≤ y3 ∧ y3 ≤ 5 := by simp at r3; omega
    have hs : subI .i64 ((f + 1 : Nat) : Int) 1 = (f : Int) := subI_nat (by omega)
    have hmul : mulI .i64 2 (l.length : Int) = 2 * (l.length : Int) := mulI_id' (by omega)
    have hfit := fit1 ((2 * (l.length : Int) + 1 + y1, y2, y3, ()) : Pc) (l := l) (by omega)
    refine .inr ⟨f, _, by omega, ⟨d3, l ++ [(2 * (l.length : Int) + 1 + y1, y2, y3, ())], rfl, u3, ⟨by simp; omega, fun p hp => ?_, ?_⟩, by simp; omega, fun p hp => ?_⟩, by simp (disch := omega) only [lett_e, bnd_s, bnd_chk, br_not, br_t, br_f, br_T, br_F, not_true_eq_false, not_false_eq_true, chk_T, chk_F, chk_eq, eqI_dc, ltI_dc, leI_dc, eqN_dc, notB_dc, andB_dc, andB_t, eqB_dc, notB_t, notB_f, inR_dc, upR_dc, ln_e, app_e, tk_e, dp_e, upd_e, repl_e, natI_n, br_pos, br_neg, addI_n, fitN_T, g1', g2', g3', hmul, hs, hfit, addI_id]⟩
    · rcases List.mem_append.1 hp with hp | hp
      · exact hl.2.1 p hp
      · rw [List.mem_singleton.1 hp]
        exact ⟨by dsimp only; omega, hy2, hy3⟩
    · rw [List.map_append, List.nodup_append]
      refine ⟨hl.2.2, by simp, fun a ha b hb' => ?_⟩
      obtain ⟨p, hp, rfl⟩ := List.mem_map.1 ha
      have := hb p hp
      simp at hb'
      omega
    · rcases List.mem_append.1 hp with hp | hp
      · have := hb p hp; simp; omega
      · rw [List.mem_singleton.1 hp]; simp; omega
theorem d_DrawPieces {k : Nat} (hk : K0 ≤ k) (b : List (Int × Unit)) (hb : b.length ≤ 1048576) : ∃ m l, spec_DrawPieces.f k b = some (m, l, ()) ∧ LimP m ∧ PiecesP l ∧ l.length ≤ 8 := by
  obtain ⟨c, e1, h1⟩ := d_new hk b hb
  obtain ⟨m, c1, e2, hm, h2⟩ := d_limits k h1
  obtain ⟨l, c2, e3, hp, h8, h3⟩ := d_pieces hk h2
  have e2' : spec_l07Limits.f k (c.1, c.2.1, c.2.2.1, ()) = some (m, c1, ()) := e2
  have e3' : spec_l07Pieces.f k (c1.1, c1.2.1, c1.2.2.1, ()) 8 = some (l, c2, ()) := e3
  unfold spec_DrawPieces.f
  exact ⟨m, l, by simp (disch := omega) only [lett_e, bnd_s, bnd_chk, br_not, br_t, br_f, br_T, br_F, not_true_eq_false, not_false_eq_true, chk_T, chk_F, chk_eq, eqI_dc, ltI_dc, leI_dc, eqN_dc, notB_dc, andB_dc, andB_t, eqB_dc, notB_t, notB_f, inR_dc, upR_dc, ln_e, app_e, tk_e, dp_e, upd_e, repl_e, natI_n, br_pos, br_neg, addI_n, fitN_T, e1, e2', e3'] <;> rfl, hm, hp, h8⟩
theorem sameIntsP_f {k : Nat} (hk : K0 ≤ k) (l : List (Int × Unit)) (hl : l.length ≤ 1048576) : laws_sameInts.f k l l = chkP True := by
  unfold laws_sameInts.f
  simp (disch := omega) only [lett_e, bnd_s, bnd_chk, br_not, br_t, br_f, br_T, br_F, not_true_eq_false, not_false_eq_true, chk_T, chk_F, chk_eq, eqI_dc, ltI_dc, leI_dc, eqN_dc, notB_dc, andB_dc, andB_t, eqB_dc, notB_t, notB_f, inR_dc, upR_dc, ln_e, app_e, tk_e, dp_e, upd_e, repl_e, natI_n, br_pos, br_neg, addI_n, fitN_T]
  unfold K0 at hk
  refine loop_run (n := l.length) (fun i => ((i : Int), ())) (by simp) (fun i hi rec => ?_) (fun rec => by simp (disch := omega) only [lett_e, bnd_s, bnd_chk, br_not, br_t, br_f, br_T, br_F, not_true_eq_false, not_false_eq_true, chk_T, chk_F, chk_eq, eqI_dc, ltI_dc, leI_dc, eqN_dc, notB_dc, andB_dc, andB_t, eqB_dc, notB_t, notB_f, inR_dc, upR_dc, ln_e, app_e, tk_e, dp_e, upd_e, repl_e, natI_n, br_pos, br_neg, addI_n, fitN_T]) (by omega)
  simp (disch := omega) only [lett_e, bnd_s, bnd_chk, br_not, br_t, br_f, br_T, br_F, not_true_eq_false, not_false_eq_true, chk_T, chk_F, chk_eq, eqI_dc, ltI_dc, leI_dc, eqN_dc, notB_dc, andB_dc, andB_t, eqB_dc, notB_t, notB_f, inR_dc, upR_dc, ln_e, app_e, tk_e, dp_e, upd_e, repl_e, natI_n, br_pos, br_neg, addI_n, fitN_T]
  rfl
theorem sameBoxes_f {k : Nat} (hk : K0 ≤ k) (l : List Bx) (hl : l.length ≤ 40) (hb : ∀ x ∈ l, x.2.2.1.length ≤ 40) : laws_sameBoxes.f k l l = chkP True := by
  unfold laws_sameBoxes.f
  simp (disch := omega) only [lett_e, bnd_s, bnd_chk, br_not, br_t, br_f, br_T, br_F, not_true_eq_false, not_false_eq_true, chk_T, chk_F, chk_eq, eqI_dc, ltI_dc, leI_dc, eqN_dc, notB_dc, andB_dc, andB_t, eqB_dc, notB_t, notB_f, inR_dc, upR_dc, ln_e, app_e, tk_e, dp_e, upd_e, repl_e, natI_n, br_pos, br_neg, addI_n, fitN_T]
  have hk' := hk
  unfold K0 at hk'
  refine loop_run (n := l.length) (fun i => ((i : Int), ())) (by simp) (fun i hi rec => ?_) (fun rec => by simp (disch := omega) only [lett_e, bnd_s, bnd_chk, br_not, br_t, br_f, br_T, br_F, not_true_eq_false, not_false_eq_true, chk_T, chk_F, chk_eq, eqI_dc, ltI_dc, leI_dc, eqN_dc, notB_dc, andB_dc, andB_t, eqB_dc, notB_t, notB_f, inR_dc, upR_dc, ln_e, app_e, tk_e, dp_e, upd_e, repl_e, natI_n, br_pos, br_neg, addI_n, fitN_T]) (by omega)
  have := sameIntsP_f hk (rdP (0, 0, [], ()) l i).2.2.1 (by have := hb _ (by rw [rd_lt hi]; exact List.getElem_mem hi : rdP (0, 0, [], ()) l i ∈ l); omega)
  simp (disch := omega) only [lett_e, bnd_s, bnd_chk, br_not, br_t, br_f, br_T, br_F, not_true_eq_false, not_false_eq_true, chk_T, chk_F, chk_eq, eqI_dc, ltI_dc, leI_dc, eqN_dc, notB_dc, andB_dc, andB_t, eqB_dc, notB_t, notB_f, inR_dc, upR_dc, ln_e, app_e, tk_e, dp_e, upd_e, repl_e, natI_n, br_pos, br_neg, addI_n, fitN_T, this]
  rfl
theorem packed_pure' {k : Nat} (hk : K0 ≤ k) (b : List (Int × Unit)) (hb : b.length ≤ 9223372036854775807) : laws_FnPacked.f k b = some (true, ()) := by
  unfold laws_FnPacked.f laws_big.f
  rw [bnd_s, ltI_dc, ln_e]
  by_cases h0 : (1048576 : Int) < b.length
  · rw [br_pos h0]
  rw [br_neg h0]
  obtain ⟨m, l, e1, hm, hp, h8⟩ := d_DrawPieces hk b (by omega)
  have hps : PiecesP (srtL l) := (piecesP_perm (srtL_perm l)).2 hp
  obtain ⟨ca, a1, a2, a3⟩ := ff_pack hm hp
  obtain ⟨cb, b1, b2, b3⟩ := ff_pack hm hps
  have b2 := b2.trans (srtL_perm l)
  have hra : repM m l = cb.map boxOf := b1
  have la := FFm_len m l
  have lb : (repM m l).length ≤ 40 ∧ ∀ x ∈ repM m l, x.2.2.1.length ≤ 40 := FFm_len m (srtL l)
  have f1 : impl_FirstFit.f k (m.1, m.2.1, ()) l = some (FFm m l, ()) := impl_FirstFit_f hk m l (by omega)
  have f2 : spec_FirstFit.f k (m.1, m.2.1, ()) l = some (FFm m l, ()) := spec_FirstFit_f hk m l
  have f3 : impl_Repack.f k (m.1, m.2.1, ()) l = some (repM m l, ()) := impl_Repack_f hk m l (by omega)
  have f4 : spec_Repack.f k (m.1, m.2.1, ()) l = some (repM m l, ()) := spec_Repack_f hk m l (by omega)
  obtain ⟨r1, g1, g2, _⟩ := impl_FewestBoxes_f hk m l (by omega)
  obtain ⟨r2, h1, h2, _⟩ := spec_FewestBoxes_f hk m l (by omega)
  obtain ⟨v, hv, rfl⟩ := g2 ⟨hm, hp, h8⟩
  obtain ⟨w, hw, rfl⟩ := h2 ⟨hm, hp, h8⟩
  obtain rfl := OptC_one hv hw
  have g1' : impl_FewestBoxes.f k (m.1, m.2.1, ()) l = some ((v : Int), ()) := g1
  have h1' : spec_FewestBoxes.f k (m.1, m.2.1, ()) l = some ((v : Int), ()) := h1
  have i1 : impl_BoxBound.f k (m.1, m.2.1, ()) l = some (bdS m l 6, ()) := impl_BoxBound_f hk m l hm hp
  have i2 : spec_BoxBound.f k (m.1, m.2.1, ()) l = some (bdS m l 6, ()) := spec_BoxBound_f hk m l hm hp
  have i3 : impl_LimitsOk.f k (m.1, m.2.1, ()) = chkP True := (impl_LimitsOk_m k m).trans (chk_pos hm)
  have i4 : impl_PiecesOk.f k l = chkP True := (impl_PiecesOk_f hk l (by omega)).trans (chk_pos hp)
  have j1 : impl_BoxesOk.f k (m.1, m.2.1, ()) l (FFm m l) = chkP True := by rw [a1]; exact impl_BoxesOk_cs hk hm hp ca a2 a3
  have j2 : impl_BoxesOk.f k (m.1, m.2.1, ()) l (repM m l) = chkP True := by rw [hra]; exact impl_BoxesOk_cs hk hm hp cb b2 b3
  have s1 := sameBoxes_f hk (FFm m l) la.1 la.2
  have s2 := sameBoxes_f hk (repM m l) lb.1 lb.2
  have q1 : (v : Int) ≤ (FFm m l).length := by
    have := hv.2 ca ⟨a2, fun c hc => (a3 c hc).2⟩
    rw [a1, List.length_map]; omega
  have q2 : (v : Int) ≤ (repM m l).length := by
    have := hv.2 cb ⟨b2, fun c hc => (b3 c hc).2⟩
    rw [hra, List.length_map]; omega
  have q3 : bdS m l 6 ≤ (v : Int) := by
    obtain ⟨bs, hbs, hl⟩ := hv.1
    have := (bound_low hm hp 6 (by omega)).2 bs (by rw [below_six hp]; exact hbs)
    omega
  have q4 : (l.length : Int) = 0 ↔ (v : Int) = 0 := by
    constructor
    · intro h
      have hl : l = [] := List.eq_nil_of_length_eq_zero (by omega)
      have := hv.2 [] ⟨by rw [hl]; simp, fun c hc => absurd hc (by simp)⟩
      simp at this
      omega
    · intro h
      obtain ⟨bs, hbs, hl⟩ := hv.1
      have : bs = [] := List.eq_nil_of_length_eq_zero (by omega)
      rw [this] at hbs
      have := hbs.1.length_eq
      simp at this
      omega
  have q5 : eqB (dc ((l.length : Int) = 0)) (dc ((v : Int) = 0)) = true := by
    by_cases h : (l.length : Int) = 0
    · rw [dc_T h, dc_T (q4.1 h)]; rfl
    · rw [dc_F h, dc_F (fun z => h (q4.2 z))]; rfl
  generalize FFm m l = A at *
  generalize repM m l = B at *
  generalize bdS m l 6 = bd at *
  rw [e1, bnd_s]
  dsimp only
  rw [f1, bnd_s, f3, bnd_s, g1', bnd_s, f2, bnd_s, s1, bnd_chk, br_not, br_pos trivial, f4, bnd_s, s2, bnd_chk, br_not, br_pos trivial, h1', bnd_s, eqI_dc, notB_dc, br_neg (fun z => z rfl), i1, bnd_s, i2, bnd_s, eqI_dc, notB_dc, br_neg (fun z => z rfl), i3, bnd_chk, br_pos trivial, i4, bnd_chk, br_pos trivial, j1, bnd_chk, br_pos trivial, j2, bnd_chk, br_pos trivial]
  dsimp only
  rw [leI_dc, ln_e, br_pos q1, leI_dc, ln_e, br_pos q2, bnd_s]
  dsimp only
  rw [leI_dc, br_pos q3, eqI_dc, ln_e, eqI_dc, q5]
theorem packed_pure : laws_FnPacked.Pure := fun x hx => ⟨K0, packed_pure' (Nat.le_refl _) x.1 (maxLen_le hx.1.1)⟩
end Go.Proofs.Ytcfbjloblbhdhaa.Eng
theorem Go.Proofs.Ytcfbjloblbhdhaa.Pure.FnPacked : Go.Proofs.Ytcfbjloblbhdhaa.Eng.laws_FnPacked.Pure := Go.Proofs.Ytcfbjloblbhdhaa.Eng.packed_pure

/- The laws' own functions on pieces and boxes. No condition. -/
import Derived.Test.YtcfbjloblbhdhaaPLpack
import Derived.Test.YtcfbjloblbhdhaaPHeld
import Derived.Test.YtcfbjloblbhdhaaPMark
import Derived.Test.YtcfbjloblbhdhaaDFnExactRepack
namespace Go.Proofs.Ytcfbjloblbhdhaa.Eng
set_option linter.unusedVariables false
set_option linter.unusedSimpArgs false
theorem laws_toPiece_f (k : Nat) (x : Pc) : laws_toPiece.f k x = some (x, ()) := rfl
theorem laws_toPieceS_f {k : Nat} (hk : K0 ≤ k) (l : List Pc) (hl : l.length ≤ 1048576) : laws_toPieceS.f k l = some (l, ()) := by
  unfold laws_toPieceS.f
  have hf := fitN_T (n := l.length) (by omega)
  simp (disch := omega) only [lett_e, bnd_s, bnd_chk, br_not, br_t, br_f, br_T, br_F, not_true_eq_false, not_false_eq_true, chk_T, chk_F, chk_eq, eqI_dc, ltI_dc, leI_dc, eqN_dc, notB_dc, andB_dc, andB_t, eqB_dc, notB_t, notB_f, inR_dc, upR_dc, ln_e, app_e, tk_e, dp_e, upd_e, repl_e, natI_n, br_pos, br_neg, addI_n, fitN_T, hf]
  refine to_loop (d := (0, 0, 0, ())) hk l hl (fun i c rec hi hc => ?_) (fun c rec => by simp (disch := omega) only [lett_e, bnd_s, bnd_chk, br_not, br_t, br_f, br_T, br_F, not_true_eq_false, not_false_eq_true, chk_T, chk_F, chk_eq, eqI_dc, ltI_dc, leI_dc, eqN_dc, notB_dc, andB_dc, andB_t, eqB_dc, notB_t, notB_f, inR_dc, upR_dc, ln_e, app_e, tk_e, dp_e, upd_e, repl_e, natI_n, br_pos, br_neg, addI_n, fitN_T])
  simp (disch := omega) only [lett_e, bnd_s, bnd_chk, br_not, br_t, br_f, br_T, br_F, not_true_eq_false, not_false_eq_true, chk_T, chk_F, chk_eq, eqI_dc, ltI_dc, leI_dc, eqN_dc, notB_dc, andB_dc, andB_t, eqB_dc, notB_t, notB_f, inR_dc, upR_dc, ln_e, app_e, tk_e, dp_e, upd_e, repl_e, natI_n, br_pos, br_neg, addI_n, fitN_T, hc, laws_toPiece_f]
  rfl
theorem laws_eqPiece_f (k : Nat) (x : Pc) : laws_eqPiece.f k x x = chkP True := by
  unfold laws_eqPiece.f
  simp (disch := omega) only [lett_e, bnd_s, bnd_chk, br_not, br_t, br_f, br_T, br_F, not_true_eq_false, not_false_eq_true, chk_T, chk_F, chk_eq, eqI_dc, ltI_dc, leI_dc, eqN_dc, notB_dc, andB_dc, andB_t, eqB_dc, notB_t, notB_f, inR_dc, upR_dc, ln_e, app_e, tk_e, dp_e, upd_e, repl_e, natI_n, br_pos, br_neg, addI_n, fitN_T, iff_self]
theorem laws_eqPieceS_f {k : Nat} (hk : K0 ≤ k) (l : List Pc) (hl : l.length ≤ 1048576) : laws_eqPieceS.f k l l = chkP True := by
  unfold laws_eqPieceS.f
  simp (disch := omega) only [lett_e, bnd_s, bnd_chk, br_not, br_t, br_f, br_T, br_F, not_true_eq_false, not_false_eq_true, chk_T, chk_F, chk_eq, eqI_dc, ltI_dc, leI_dc, eqN_dc, notB_dc, andB_dc, andB_t, eqB_dc, notB_t, notB_f, inR_dc, upR_dc, ln_e, app_e, tk_e, dp_e, upd_e, repl_e, natI_n, br_pos, br_neg, addI_n, fitN_T]
  refine eq_loop hk hl (fun i rec hi => ?_) (fun rec => by simp (disch := omega) only [lett_e, bnd_s, bnd_chk, br_not, br_t, br_f, br_T, br_F, not_true_eq_false, not_false_eq_true, chk_T, chk_F, chk_eq, eqI_dc, ltI_dc, leI_dc, eqN_dc, notB_dc, andB_dc, andB_t, eqB_dc, notB_t, notB_f, inR_dc, upR_dc, ln_e, app_e, tk_e, dp_e, upd_e, repl_e, natI_n, br_pos, br_neg, addI_n, fitN_T])
  have h := laws_eqPiece_f k (rdP (0, 0, 0, ()) l i)
  simp (disch := omega) only [lett_e, bnd_s, bnd_chk, br_not, br_t, br_f, br_T, br_F, not_true_eq_false, not_false_eq_true, chk_T, chk_F, chk_eq, eqI_dc, ltI_dc, leI_dc, eqN_dc, notB_dc, andB_dc, andB_t, eqB_dc, notB_t, notB_f, inR_dc, upR_dc, ln_e, app_e, tk_e, dp_e, upd_e, repl_e, natI_n, br_pos, br_neg, addI_n, fitN_T, pc_eta, h]
  rfl
theorem laws_eqBox_f {k : Nat} (hk : K0 ≤ k) (x : Bx) (hx : x.2.2.1.length ≤ 1048576) : laws_eqBox.f k x x = chkP True := by
  have h := laws_eqIntS_f hk x.2.2.1 hx
  unfold laws_eqBox.f
  simp (disch := omega) only [lett_e, bnd_s, bnd_chk, br_not, br_t, br_f, br_T, br_F, not_true_eq_false, not_false_eq_true, chk_T, chk_F, chk_eq, eqI_dc, ltI_dc, leI_dc, eqN_dc, notB_dc, andB_dc, andB_t, eqB_dc, notB_t, notB_f, inR_dc, upR_dc, ln_e, app_e, tk_e, dp_e, upd_e, repl_e, natI_n, br_pos, br_neg, addI_n, fitN_T, h]
theorem laws_eqBoxS_f {k : Nat} (hk : K0 ≤ k) (l : List Bx) (hl : l.length ≤ 1048576) (hb : ∀ x ∈ l, x.2.2.1.length ≤ 1048576) : laws_eqBoxS.f k l l = chkP True := by
  unfold laws_eqBoxS.f
  simp (disch := omega) only [lett_e, bnd_s, bnd_chk, br_not, br_t, br_f, br_T, br_F, not_true_eq_false, not_false_eq_true, chk_T, chk_F, chk_eq, eqI_dc, ltI_dc, leI_dc, eqN_dc, notB_dc, andB_dc, andB_t, eqB_dc, notB_t, notB_f, inR_dc, upR_dc, ln_e, app_e, tk_e, dp_e, upd_e, repl_e, natI_n, br_pos, br_neg, addI_n, fitN_T]
  refine eq_loop hk hl (fun i rec hi => ?_) (fun rec => by simp (disch := omega) only [lett_e, bnd_s, bnd_chk, br_not, br_t, br_f, br_T, br_F, not_true_eq_false, not_false_eq_true, chk_T, chk_F, chk_eq, eqI_dc, ltI_dc, leI_dc, eqN_dc, notB_dc, andB_dc, andB_t, eqB_dc, notB_t, notB_f, inR_dc, upR_dc, ln_e, app_e, tk_e, dp_e, upd_e, repl_e, natI_n, br_pos, br_neg, addI_n, fitN_T])
  have h : laws_eqBox.f k ((rdP (0, 0, [], ()) l i).1, (rdP (0, 0, [], ()) l i).2.1, (rdP (0, 0, [], ()) l i).2.2.1, ()) ((rdP (0, 0, [], ()) l i).1, (rdP (0, 0, [], ()) l i).2.1, (rdP (0, 0, [], ()) l i).2.2.1, ()) = chkP True := laws_eqBox_f hk (rdP (0, 0, [], ()) l i) (hb _ (by rw [rd_lt hi]; exact List.getElem_mem hi))
  simp (disch := omega) only [lett_e, bnd_s, bnd_chk, br_not, br_t, br_f, br_T, br_F, not_true_eq_false, not_false_eq_true, chk_T, chk_F, chk_eq, eqI_dc, ltI_dc, leI_dc, eqN_dc, notB_dc, andB_dc, andB_t, eqB_dc, notB_t, notB_f, inR_dc, upR_dc, ln_e, app_e, tk_e, dp_e, upd_e, repl_e, natI_n, br_pos, br_neg, addI_n, fitN_T, h]
  rfl
theorem laws_markPieceS_m {k : Nat} (hk : K0 ≤ k) (l : List Pc) (hl : l.length ≤ 1048576) (m : Int) (hm : 0 ≤ m ∧ m ≤ 36028797018963968) : Mk (laws_markPieceS.f k l m) m l.length 3 := by
  unfold laws_markPieceS.f
  refine mark_loop (d := (0, 0, 0, ())) hk hm hl (fun i c m hi hc h1 h2 h3 => ?_) (fun c m rec hc => by simp (disch := omega) only [lett_e, bnd_s, bnd_chk, br_not, br_t, br_f, br_T, br_F, not_true_eq_false, not_false_eq_true, chk_T, chk_F, chk_eq, eqI_dc, ltI_dc, leI_dc, eqN_dc, notB_dc, andB_dc, andB_t, eqB_dc, notB_t, notB_f, inR_dc, upR_dc, ln_e, app_e, tk_e, dp_e, upd_e, repl_e, natI_n, br_pos, br_neg, addI_n, fitN_T, hc])
  apply Exists.intro
  refine ⟨m + 1 + 1 + 1, by omega, by omega, fun rec => ?_⟩
  simp (disch := omega) only [lett_e, bnd_s, bnd_chk, br_not, br_t, br_f, br_T, br_F, not_true_eq_false, not_false_eq_true, chk_T, chk_F, chk_eq, eqI_dc, ltI_dc, leI_dc, eqN_dc, notB_dc, andB_dc, andB_t, eqB_dc, notB_t, notB_f, inR_dc, upR_dc, ln_e, app_e, tk_e, dp_e, upd_e, repl_e, natI_n, br_pos, br_neg, addI_n, fitN_T, hc, rd_set, List.set_set, List.length_set, addI_id]
  rfl
theorem laws_markBoxS_h {k : Nat} (hk : K0 ≤ k) (l : List Bx) (hl : l.length ≤ 1048576) (hb : ∀ c ∈ l, c.2.2.1.length ≤ 1048576) (m : Int) (hm : 0 ≤ m ∧ m ≤ 1125899906842624) : MkH (laws_markBoxS.f k l m) (laws_heldBoxS.f k) m 1048578 := by
  unfold laws_markBoxS.f laws_heldBoxS.f
  refine mh_loop (d := (0, 0, [], ())) hk hm hl (fun i c m hi hc h1 h2 h3 => ?_) (fun c m rec hc => mh_e hc _ _) (fun c m rec hc => mh_e hc _ _)
  obtain ⟨r, cc, e1, e2, h5, h6⟩ := laws_markIntS_h hk (rdP (0, 0, [], ()) l i).2.2.1 (hb _ (rd_mem hi)) (m + 1 + 1) (by omega)
  refine ⟨(m, m + 1, cc, ()), r, by omega, fun rec => ?_, fun c' rec hc' e => ?_⟩
  · simp (disch := omega) only [lett_e, bnd_s, bnd_chk, br_not, br_t, br_f, br_T, br_F, not_true_eq_false, not_false_eq_true, chk_T, chk_F, chk_eq, eqI_dc, ltI_dc, leI_dc, eqN_dc, notB_dc, andB_dc, andB_t, eqB_dc, notB_t, notB_f, inR_dc, upR_dc, ln_e, app_e, tk_e, dp_e, upd_e, repl_e, natI_n, br_pos, br_neg, addI_n, fitN_T, hc, h1, rd_set', List.set_set, List.length_set, addI_id, e1]
    rfl
  · simp (disch := omega) only [lett_e, bnd_s, bnd_chk, br_not, br_t, br_f, br_T, br_F, not_true_eq_false, not_false_eq_true, chk_T, chk_F, chk_eq, eqI_dc, ltI_dc, leI_dc, eqN_dc, notB_dc, andB_dc, andB_t, eqB_dc, notB_t, notB_f, inR_dc, upR_dc, ln_e, app_e, tk_e, dp_e, upd_e, repl_e, natI_n, br_pos, br_neg, addI_n, fitN_T, hc', e, addI_id, e2]
    rfl
theorem repM_sz (m : LimT) (l : List Pc) : (repM m l).length ≤ 1048576 ∧ ∀ x ∈ repM m l, x.2.2.1.length ≤ 1048576 := by
  obtain ⟨h1, h2⟩ := FFm_len m (srtL l)
  exact ⟨by unfold repM; omega, fun x hx => by have := h2 x hx; omega⟩
end Go.Proofs.Ytcfbjloblbhdhaa.Eng

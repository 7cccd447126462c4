/- FnExactStillOut, as a pure law. No condition. -/
import Derived.Test.YtpihkhknehadbaaGreatPStill
import Derived.Test.YtpihkhknehadbaaGreatPMark
import Derived.Test.YtpihkhknehadbaaGreatStFnExactStillOut
namespace Go.Proofs.YtpihkhknehadbaaGreat.Eng
set_option linter.unusedVariables false
set_option linter.unusedSimpArgs false
theorem stillOut_pure' {k : Nat} (hk : K0 ≤ k) (x : HallT) (p : Int) (hb : BigH x) : laws_FnExactStillOut.f k x p = some (true, ()) := by
  obtain ⟨r, h1, h2⟩ := laws_szHall_f hk x hb 1048576 (by omega)
  unfold laws_FnExactStillOut.f
  rcases h2 with h2 | hs
  · simp (disch := omega) only [lett_e, bnd_s, bnd_chk, br_not, br_t, br_f, br_T, br_F, not_true_eq_false, not_false_eq_true, chk_T, chk_F, chk_eq, eqI_dc, ltI_dc, leI_dc, eqN_dc, notB_dc, andB_dc, andB_t, eqB_dc, notB_t, notB_f, inR_dc, upR_dc, ln_e, app_e, tk_e, dp_e, upd_e, repl_e, natI_n, br_pos, br_neg, addI_n, fitN_T, h1]
  · have h3 := laws_toHall_f hk x hs.toSzH
    have h4 := spec_StillOut_f hk x p hs
    have h5 := impl_StillOut_f hk x p hs
    have h6 := laws_eqHall_f hk x hs.toSzH
    have hl : (outM x p).length ≤ 1048576 := Nat.le_trans (outM_len x p) hs.cases_
    have h7 := laws_eqIntS_f hk (outM x p) hl
    obtain ⟨r2, y, h8, h9⟩ := laws_markHall_m hk x hs.toSzH
    obtain ⟨c, h10, h11⟩ := laws_marked hk (outM x p) hl 1 (by omega)
    by_cases h : r < 0
    · simp (disch := omega) only [lett_e, bnd_s, bnd_chk, br_not, br_t, br_f, br_T, br_F, not_true_eq_false, not_false_eq_true, chk_T, chk_F, chk_eq, eqI_dc, ltI_dc, leI_dc, eqN_dc, notB_dc, andB_dc, andB_t, eqB_dc, notB_t, notB_f, inR_dc, upR_dc, ln_e, app_e, tk_e, dp_e, upd_e, repl_e, natI_n, br_pos, br_neg, addI_n, fitN_T, h1]
    · simp (disch := omega) only [lett_e, bnd_s, bnd_chk, br_not, br_t, br_f, br_T, br_F, not_true_eq_false, not_false_eq_true, chk_T, chk_F, chk_eq, eqI_dc, ltI_dc, leI_dc, eqN_dc, notB_dc, andB_dc, andB_t, eqB_dc, notB_t, notB_f, inR_dc, upR_dc, ln_e, app_e, tk_e, dp_e, upd_e, repl_e, natI_n, br_pos, br_neg, addI_n, fitN_T, h1, h3, h4, h5, h6, h7, h8, h10, h11]
theorem stillOut_pure : laws_FnExactStillOut.Pure := fun x y hw _ => ⟨K0, stillOut_pure' (Nat.le_refl _) x y.1 (big_wf hw)⟩
end Go.Proofs.YtpihkhknehadbaaGreat.Eng
theorem Go.Proofs.YtpihkhknehadbaaGreat.Pure.FnExactStillOut : Go.Proofs.YtpihkhknehadbaaGreat.Eng.laws_FnExactStillOut.Pure := Go.Proofs.YtpihkhknehadbaaGreat.Eng.stillOut_pure

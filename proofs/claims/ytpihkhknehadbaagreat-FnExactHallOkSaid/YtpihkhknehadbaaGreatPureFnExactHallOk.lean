/- FnExactHallOk, as a pure law. No condition. -/
import Derived.Test.YtpihkhknehadbaaGreatPSz
import Derived.Test.YtpihkhknehadbaaGreatStFnExactHallOk
namespace Go.Proofs.YtpihkhknehadbaaGreat.Eng
set_option linter.unusedVariables false
set_option linter.unusedSimpArgs false
theorem hallOk_pure' {k : Nat} (hk : K0 ≤ k) (x : HallT) (hb : BigH x) : laws_FnExactHallOk.f k x = some (true, ()) := by
  obtain ⟨r, h1, h2⟩ := laws_szHall_f hk x hb 1048576 (by omega)
  unfold laws_FnExactHallOk.f
  rcases h2 with h2 | hs
  · simp (disch := omega) only [lett_e, bnd_s, bnd_chk, br_not, br_t, br_f, br_T, br_F, not_true_eq_false, not_false_eq_true, chk_T, chk_F, chk_eq, eqI_dc, ltI_dc, leI_dc, eqN_dc, notB_dc, andB_dc, andB_t, eqB_dc, notB_t, notB_f, inR_dc, upR_dc, ln_e, app_e, tk_e, dp_e, upd_e, repl_e, natI_n, br_pos, br_neg, addI_n, fitN_T, h1]
  · have h3 := laws_toHall_f hk x hs.toSzH
    have h4 := spec_HallOk_f hk x hs.toSzH
    have h5 := impl_HallOk_f hk x hs
    have h6 := laws_eqHall_f hk x hs.toSzH
    rw [chk_congr (hall_same x)] at h5
    by_cases h : r < 0
    · simp (disch := omega) only [lett_e, bnd_s, bnd_chk, br_not, br_t, br_f, br_T, br_F, not_true_eq_false, not_false_eq_true, chk_T, chk_F, chk_eq, eqI_dc, ltI_dc, leI_dc, eqN_dc, notB_dc, andB_dc, andB_t, eqB_dc, notB_t, notB_f, inR_dc, upR_dc, ln_e, app_e, tk_e, dp_e, upd_e, repl_e, natI_n, br_pos, br_neg, addI_n, fitN_T, h1]
    · simp (disch := omega) only [lett_e, bnd_s, bnd_chk, br_not, br_t, br_f, br_T, br_F, not_true_eq_false, not_false_eq_true, chk_T, chk_F, chk_eq, eqI_dc, ltI_dc, leI_dc, eqN_dc, notB_dc, andB_dc, andB_t, eqB_dc, notB_t, notB_f, inR_dc, upR_dc, ln_e, app_e, tk_e, dp_e, upd_e, repl_e, natI_n, br_pos, br_neg, addI_n, fitN_T, h1, h3, h4, h5, h6, iff_self]
theorem hallOk_pure : laws_FnExactHallOk.Pure := fun x hw => ⟨K0, hallOk_pure' (Nat.le_refl _) x (big_wf hw)⟩
end Go.Proofs.YtpihkhknehadbaaGreat.Eng
theorem Go.Proofs.YtpihkhknehadbaaGreat.Pure.FnExactHallOk : Go.Proofs.YtpihkhknehadbaaGreat.Eng.laws_FnExactHallOk.Pure := Go.Proofs.YtpihkhknehadbaaGreat.Eng.hallOk_pure

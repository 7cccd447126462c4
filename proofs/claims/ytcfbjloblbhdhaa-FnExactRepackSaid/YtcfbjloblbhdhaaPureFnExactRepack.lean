/- FnExactRepack, as a pure law. No condition. -/
import Derived.Test.YtcfbjloblbhdhaaPLhar
import Derived.Test.YtcfbjloblbhdhaaStFnExactRepack
import Derived.Test.YtcfbjloblbhdhaaDFnExactRepack
namespace Go.Proofs.Ytcfbjloblbhdhaa.Eng
set_option linter.unusedVariables false
set_option linter.unusedSimpArgs false
theorem repack_pure' {k : Nat} (hk : K0 ≤ k) (m : LimT) (l : List Pc) (hb : l.length ≤ 9223372036854775807) : laws_FnExactRepack.f k m l = some (true, ()) := by
  have h0 := szr_flat (l := l) (n := 1048576) (by omega) hb
  have h1 : Szr (laws_szPieceS.f k l 1048576) 1048576 l.length := h0
  unfold laws_FnExactRepack.f
  obtain ⟨r, e, ⟨h2, _⟩ | ⟨h2, h3⟩⟩ := h1
  · subst h2
    simp (disch := omega) only [lett_e, bnd_s, bnd_chk, br_not, br_t, br_f, br_T, br_F, not_true_eq_false, not_false_eq_true, chk_T, chk_F, chk_eq, eqI_dc, ltI_dc, leI_dc, eqN_dc, notB_dc, andB_dc, andB_t, eqB_dc, notB_t, notB_f, inR_dc, upR_dc, ln_e, app_e, tk_e, dp_e, upd_e, repl_e, natI_n, br_pos, br_neg, addI_n, fitN_T, e]
  · have hl : l.length ≤ 1048576 := by omega
    have q1 := laws_toPieceS_f hk l hl
    have q2 : spec_Repack.f k (m.1, m.2.1, ()) l = some (repM m l, ()) := spec_Repack_f hk m l hl
    have q3 : impl_Repack.f k (m.1, m.2.1, ()) l = some (repM m l, ()) := impl_Repack_f hk m l hl
    obtain ⟨z1, z2⟩ := repM_sz m l
    have q4 := laws_eqBoxS_f hk (repM m l) z1 z2
    have q5 := laws_eqPieceS_f hk l hl
    obtain ⟨r1, c1, e1, _, e3, _⟩ := laws_markPieceS_m hk l hl 1 (by omega)
    obtain ⟨r2, c2, g1, g2, g3, _⟩ := laws_markBoxS_h hk (repM m l) z1 z2 1 (by omega)
    have q6 : laws_toLimits.f k (m.1, m.2.1, ()) = some (m, ()) := rfl
    simp (disch := omega) only [lett_e, bnd_s, bnd_chk, br_not, br_t, br_f, br_T, br_F, not_true_eq_false, not_false_eq_true, chk_T, chk_F, chk_eq, eqI_dc, ltI_dc, leI_dc, eqN_dc, notB_dc, andB_dc, andB_t, eqB_dc, notB_t, notB_f, inR_dc, upR_dc, ln_e, app_e, tk_e, dp_e, upd_e, repl_e, natI_n, br_pos, br_neg, addI_n, fitN_T, e, q1, q2, q3, q4, q5, e1, g1, g2, q6, iff_self]
theorem repack_pure : laws_FnExactRepack.Pure := fun x y hx hy => ⟨K0, repack_pure' (Nat.le_refl _) x y.1 (maxLen_le hy.1.1)⟩
end Go.Proofs.Ytcfbjloblbhdhaa.Eng
theorem Go.Proofs.Ytcfbjloblbhdhaa.Pure.FnExactRepack : Go.Proofs.Ytcfbjloblbhdhaa.Eng.laws_FnExactRepack.Pure := Go.Proofs.Ytcfbjloblbhdhaa.Eng.repack_pure

/- What is still out of a flight: the reference's and the program's. No condition. -/
import Derived.Test.YtpihkhknehadbaaGreatPA
import Derived.Test.YtpihkhknehadbaaGreatPB
import Derived.Test.YtpihkhknehadbaaGreatDFnExactStillOut
namespace Go.Proofs.YtpihkhknehadbaaGreat.Eng
set_option linter.unusedVariables false
set_option linter.unusedSimpArgs false
noncomputable def outR (l : List CaseT) (f : Int) : Nat → List (Int × Unit)
  | 0 => []
  | i + 1 => outR l f i ++ (if (rdP (0, 0, 0, 0, 0, 0, 0, 0, 0, 0, ()) l i).2.2.2.1 = f ∧ ((rdP (0, 0, 0, 0, 0, 0, 0, 0, 0, 0, ()) l i).2.2.2.2.2.2.1 ≤ 3 ∨ (rdP (0, 0, 0, 0, 0, 0, 0, 0, 0, 0, ()) l i).2.2.2.2.2.2.1 = 5) then [((i : Int) + 1, ())] else [])
theorem outR_len (l : List CaseT) (f : Int) : ∀ i, (outR l f i).length ≤ i
  | 0 => Nat.le_refl _
  | i + 1 => by
    have := outR_len l f i
    simp only [outR, List.length_append]
    split <;> simp <;> omega
noncomputable def outM (x : HallT) (f : Int) : List (Int × Unit) := @ite _ (HallP x ∧ (1 ≤ f ∧ f ≤ x.2.2.2.2.2.2.2.2.2.2.2.2.2.2.2.1.length)) (Classical.propDecidable _) (outR x.2.2.2.2.2.2.2.2.2.2.2.2.2.2.2.2.1 f x.2.2.2.2.2.2.2.2.2.2.2.2.2.2.2.2.1.length) []
theorem outM_pos {x : HallT} {f : Int} (h : HallP x) (h2 : 1 ≤ f ∧ f ≤ x.2.2.2.2.2.2.2.2.2.2.2.2.2.2.2.1.length) : outM x f = outR x.2.2.2.2.2.2.2.2.2.2.2.2.2.2.2.2.1 f x.2.2.2.2.2.2.2.2.2.2.2.2.2.2.2.2.1.length := if_pos ⟨h, h2⟩
theorem outM_neg {x : HallT} {f : Int} (h : ¬ (HallP x ∧ (1 ≤ f ∧ f ≤ x.2.2.2.2.2.2.2.2.2.2.2.2.2.2.2.1.length))) : outM x f = [] := if_neg h
theorem outM_len (x : HallT) (f : Int) : (outM x f).length ≤ x.2.2.2.2.2.2.2.2.2.2.2.2.2.2.2.2.1.length := by
  unfold outM
  split
  · exact outR_len _ _ _
  · exact Nat.zero_le _
theorem spec_StillOut_f {k : Nat} (hk : K0 ≤ k) (x : HallT) (f : Int) (hs : SzT x) : spec_StillOut.f k x f = some (outM x f, ()) := by
  have h4 := spec_HallOk_f hk x hs.toSzH
  unfold K0 at hk
  have hc := hs.cases_
  unfold spec_StillOut.f
  simp (disch := omega) only [lett_e, bnd_s, bnd_chk, br_not, br_t, br_f, br_T, br_F, not_true_eq_false, not_false_eq_true, chk_T, chk_F, chk_eq, eqI_dc, ltI_dc, leI_dc, eqN_dc, notB_dc, andB_dc, andB_t, eqB_dc, notB_t, notB_f, inR_dc, upR_dc, ln_e, app_e, tk_e, dp_e, upd_e, repl_e, natI_n, br_pos, br_neg, addI_n, fitN_T, h4, spec_l01In_f]
  by_cases hP : HallP x
  case neg => rw [br_neg hP, outM_neg (fun z => hP z.1)]
  by_cases h2 : 1 ≤ f ∧ f ≤ x.2.2.2.2.2.2.2.2.2.2.2.2.2.2.2.1.length
  case neg => rw [br_pos hP, br_neg h2, outM_neg (fun z => h2 z.2)]
  rw [br_pos hP, br_pos h2, outM_pos hP h2]
  have hcs := hP.2.2.2.2.2.2.2.2.2.2.1
  refine loop_run (n := x.2.2.2.2.2.2.2.2.2.2.2.2.2.2.2.2.1.length) (fun i => (outR x.2.2.2.2.2.2.2.2.2.2.2.2.2.2.2.2.1 f i, (i : Int), ())) (by simp [outR]) (fun i hi rec => ?_) (fun rec => by simp (disch := omega) only [lett_e, bnd_s, bnd_chk, br_not, br_t, br_f, br_T, br_F, not_true_eq_false, not_false_eq_true, chk_T, chk_F, chk_eq, eqI_dc, ltI_dc, leI_dc, eqN_dc, notB_dc, andB_dc, andB_t, eqB_dc, notB_t, notB_f, inR_dc, upR_dc, ln_e, app_e, tk_e, dp_e, upd_e, repl_e, natI_n, br_pos, br_neg, addI_n, fitN_T]) (by omega)
  have hl := outR_len x.2.2.2.2.2.2.2.2.2.2.2.2.2.2.2.2.1 f i
  have hf := fitL_T (l := outR x.2.2.2.2.2.2.2.2.2.2.2.2.2.2.2.2.1 f i) (m := [((i : Int) + 1, ())]) (by simp; omega)
  have h3 := (hcs i hi).2.2.2.2.1
  have hR : outR x.2.2.2.2.2.2.2.2.2.2.2.2.2.2.2.2.1 f (i + 1) = outR x.2.2.2.2.2.2.2.2.2.2.2.2.2.2.2.2.1 f i ++ (if (rdP (0, 0, 0, 0, 0, 0, 0, 0, 0, 0, ()) x.2.2.2.2.2.2.2.2.2.2.2.2.2.2.2.2.1 i).2.2.2.1 = f ∧ ((rdP (0, 0, 0, 0, 0, 0, 0, 0, 0, 0, ()) x.2.2.2.2.2.2.2.2.2.2.2.2.2.2.2.2.1 i).2.2.2.2.2.2.1 ≤ 3 ∨ (rdP (0, 0, 0, 0, 0, 0, 0, 0, 0, 0, ()) x.2.2.2.2.2.2.2.2.2.2.2.2.2.2.2.2.1 i).2.2.2.2.2.2.1 = 5) then [((i : Int) + 1, ())] else []) := rfl
  rw [hR]
  by_cases e1 : (rdP (0, 0, 0, 0, 0, 0, 0, 0, 0, 0, ()) x.2.2.2.2.2.2.2.2.2.2.2.2.2.2.2.2.1 i).2.2.2.1 = f
  case neg =>
    rw [if_neg (fun z => e1 z.1), List.append_nil]
    simp (disch := omega) only [lett_e, bnd_s, bnd_chk, br_not, br_t, br_f, br_T, br_F, not_true_eq_false, not_false_eq_true, chk_T, chk_F, chk_eq, eqI_dc, ltI_dc, leI_dc, eqN_dc, notB_dc, andB_dc, andB_t, eqB_dc, notB_t, notB_f, inR_dc, upR_dc, ln_e, app_e, tk_e, dp_e, upd_e, repl_e, natI_n, br_pos, br_neg, addI_n, fitN_T]
    rfl
  by_cases e2 : (rdP (0, 0, 0, 0, 0, 0, 0, 0, 0, 0, ()) x.2.2.2.2.2.2.2.2.2.2.2.2.2.2.2.2.1 i).2.2.2.2.2.2.1 ≤ 3
  · rw [if_pos ⟨e1, .inl e2⟩]
    simp (disch := omega) only [lett_e, bnd_s, bnd_chk, br_not, br_t, br_f, br_T, br_F, not_true_eq_false, not_false_eq_true, chk_T, chk_F, chk_eq, eqI_dc, ltI_dc, leI_dc, eqN_dc, notB_dc, andB_dc, andB_t, eqB_dc, notB_t, notB_f, inR_dc, upR_dc, ln_e, app_e, tk_e, dp_e, upd_e, repl_e, natI_n, br_pos, br_neg, addI_n, fitN_T, hf]
    rfl
  by_cases e3 : (rdP (0, 0, 0, 0, 0, 0, 0, 0, 0, 0, ()) x.2.2.2.2.2.2.2.2.2.2.2.2.2.2.2.2.1 i).2.2.2.2.2.2.1 = 5
  · rw [if_pos ⟨e1, .inr e3⟩]
    simp (disch := omega) only [lett_e, bnd_s, bnd_chk, br_not, br_t, br_f, br_T, br_F, not_true_eq_false, not_false_eq_true, chk_T, chk_F, chk_eq, eqI_dc, ltI_dc, leI_dc, eqN_dc, notB_dc, andB_dc, andB_t, eqB_dc, notB_t, notB_f, inR_dc, upR_dc, ln_e, app_e, tk_e, dp_e, upd_e, repl_e, natI_n, br_pos, br_neg, addI_n, fitN_T, hf]
    rfl
  · rw [if_neg (fun z => z.2.elim e2 e3), List.append_nil]
    simp (disch := omega) only [lett_e, bnd_s, bnd_chk, br_not, br_t, br_f, br_T, br_F, not_true_eq_false, not_false_eq_true, chk_T, chk_F, chk_eq, eqI_dc, ltI_dc, leI_dc, eqN_dc, notB_dc, andB_dc, andB_t, eqB_dc, notB_t, notB_f, inR_dc, upR_dc, ln_e, app_e, tk_e, dp_e, upd_e, repl_e, natI_n, br_pos, br_neg, addI_n, fitN_T]
    rfl
theorem impl_StillOut_f {k : Nat} (hk : K0 ≤ k) (x : HallT) (f : Int) (hs : SzT x) : impl_StillOut.f k x f = some (outM x f, ()) := by
  have h4 := impl_HallOk_f hk x hs
  rw [chk_congr (hall_same x)] at h4
  unfold K0 at hk
  have hc := hs.cases_
  unfold impl_StillOut.f
  simp (disch := omega) only [lett_e, bnd_s, bnd_chk, br_not, br_t, br_f, br_T, br_F, not_true_eq_false, not_false_eq_true, chk_T, chk_F, chk_eq, eqI_dc, ltI_dc, leI_dc, eqN_dc, notB_dc, andB_dc, andB_t, eqB_dc, notB_t, notB_f, inR_dc, upR_dc, ln_e, app_e, tk_e, dp_e, upd_e, repl_e, natI_n, br_pos, br_neg, addI_n, fitN_T, h4, impl_isFlight_f]
  by_cases hP : HallP x
  case neg => rw [br_neg hP, outM_neg (fun z => hP z.1)]
  by_cases h2 : 1 ≤ f ∧ f ≤ x.2.2.2.2.2.2.2.2.2.2.2.2.2.2.2.1.length
  case neg => rw [br_pos hP, br_neg h2, outM_neg (fun z => h2 z.2)]
  rw [br_pos hP, br_pos h2, outM_pos hP h2]
  refine loop_run (n := x.2.2.2.2.2.2.2.2.2.2.2.2.2.2.2.2.1.length) (fun i => (outR x.2.2.2.2.2.2.2.2.2.2.2.2.2.2.2.2.1 f i, (i : Int), ())) (by simp [outR]) (fun i hi rec => ?_) (fun rec => by simp (disch := omega) only [lett_e, bnd_s, bnd_chk, br_not, br_t, br_f, br_T, br_F, not_true_eq_false, not_false_eq_true, chk_T, chk_F, chk_eq, eqI_dc, ltI_dc, leI_dc, eqN_dc, notB_dc, andB_dc, andB_t, eqB_dc, notB_t, notB_f, inR_dc, upR_dc, ln_e, app_e, tk_e, dp_e, upd_e, repl_e, natI_n, br_pos, br_neg, addI_n, fitN_T]) (by omega)
  have hl := outR_len x.2.2.2.2.2.2.2.2.2.2.2.2.2.2.2.2.1 f i
  have hf := fitL_T (l := outR x.2.2.2.2.2.2.2.2.2.2.2.2.2.2.2.2.1 f i) (m := [((i : Int) + 1, ())]) (by simp; omega)
  have hR : outR x.2.2.2.2.2.2.2.2.2.2.2.2.2.2.2.2.1 f (i + 1) = outR x.2.2.2.2.2.2.2.2.2.2.2.2.2.2.2.2.1 f i ++ (if (rdP (0, 0, 0, 0, 0, 0, 0, 0, 0, 0, ()) x.2.2.2.2.2.2.2.2.2.2.2.2.2.2.2.2.1 i).2.2.2.1 = f ∧ ((rdP (0, 0, 0, 0, 0, 0, 0, 0, 0, 0, ()) x.2.2.2.2.2.2.2.2.2.2.2.2.2.2.2.2.1 i).2.2.2.2.2.2.1 ≤ 3 ∨ (rdP (0, 0, 0, 0, 0, 0, 0, 0, 0, 0, ()) x.2.2.2.2.2.2.2.2.2.2.2.2.2.2.2.2.1 i).2.2.2.2.2.2.1 = 5) then [((i : Int) + 1, ())] else []) := rfl
  rw [hR]
  by_cases e1 : (rdP (0, 0, 0, 0, 0, 0, 0, 0, 0, 0, ()) x.2.2.2.2.2.2.2.2.2.2.2.2.2.2.2.2.1 i).2.2.2.1 = f
  case neg =>
    rw [if_neg (fun z => e1 z.1), List.append_nil]
    simp (disch := omega) only [lett_e, bnd_s, bnd_chk, br_not, br_t, br_f, br_T, br_F, not_true_eq_false, not_false_eq_true, chk_T, chk_F, chk_eq, eqI_dc, ltI_dc, leI_dc, eqN_dc, notB_dc, andB_dc, andB_t, eqB_dc, notB_t, notB_f, inR_dc, upR_dc, ln_e, app_e, tk_e, dp_e, upd_e, repl_e, natI_n, br_pos, br_neg, addI_n, fitN_T]
    rfl
  by_cases e2 : (rdP (0, 0, 0, 0, 0, 0, 0, 0, 0, 0, ()) x.2.2.2.2.2.2.2.2.2.2.2.2.2.2.2.2.1 i).2.2.2.2.2.2.1 ≤ 3
  · rw [if_pos ⟨e1, .inl e2⟩]
    simp (disch := omega) only [lett_e, bnd_s, bnd_chk, br_not, br_t, br_f, br_T, br_F, not_true_eq_false, not_false_eq_true, chk_T, chk_F, chk_eq, eqI_dc, ltI_dc, leI_dc, eqN_dc, notB_dc, andB_dc, andB_t, eqB_dc, notB_t, notB_f, inR_dc, upR_dc, ln_e, app_e, tk_e, dp_e, upd_e, repl_e, natI_n, br_pos, br_neg, addI_n, fitN_T, hf]
    rfl
  by_cases e3 : (rdP (0, 0, 0, 0, 0, 0, 0, 0, 0, 0, ()) x.2.2.2.2.2.2.2.2.2.2.2.2.2.2.2.2.1 i).2.2.2.2.2.2.1 = 5
  · rw [if_pos ⟨e1, .inr e3⟩]
    simp (disch := omega) only [lett_e, bnd_s, bnd_chk, br_not, br_t, br_f, br_T, br_F, not_true_eq_false, not_false_eq_true, chk_T, chk_F, chk_eq, eqI_dc, ltI_dc, leI_dc, eqN_dc, notB_dc, andB_dc, andB_t, eqB_dc, notB_t, notB_f, inR_dc, upR_dc, ln_e, app_e, tk_e, dp_e, upd_e, repl_e, natI_n, br_pos, br_neg, addI_n, fitN_T, hf]
    rfl
  · rw [if_neg (fun z => z.2.elim e2 e3), List.append_nil]
    simp (disch := omega) only [lett_e, bnd_s, bnd_chk, br_not, br_t, br_f, br_T, br_F, not_true_eq_false, not_false_eq_true, chk_T, chk_F, chk_eq, eqI_dc, ltI_dc, leI_dc, eqN_dc, notB_dc, andB_dc, andB_t, eqB_dc, notB_t, notB_f, inR_dc, upR_dc, ln_e, app_e, tk_e, dp_e, upd_e, repl_e, natI_n, br_pos, br_neg, addI_n, fitN_T]
    rfl
end Go.Proofs.YtpihkhknehadbaaGreat.Eng

/- LoadOf, the program's and the reference's. No condition. -/
import Derived.Test.YtpihkhknehadbaaGreatPB
import Derived.Test.YtpihkhknehadbaaGreatDFnExactLoadOf
namespace Go.Proofs.YtpihkhknehadbaaGreat.Eng
set_option linter.unusedVariables false
set_option linter.unusedSimpArgs false
/-- the weight of a flight's bags that are gone, of the first cases -/
def loadR (l : List CaseT) (f : Int) : Nat → Int
  | 0 => 0
  | i + 1 => loadR l f i + (if (rdP (0, 0, 0, 0, 0, 0, 0, 0, 0, 0, ()) l i).2.2.2.1 = f ∧ (rdP (0, 0, 0, 0, 0, 0, 0, 0, 0, 0, ()) l i).2.2.2.2.2.2.1 = 6 then (rdP (0, 0, 0, 0, 0, 0, 0, 0, 0, 0, ()) l i).2.2.2.2.1 else 0)
theorem loadR_le {l : List CaseT} {f : Int} (hw : ∀ i, i < l.length → 1 ≤ (rdP (0, 0, 0, 0, 0, 0, 0, 0, 0, 0, ()) l i).2.2.2.2.1 ∧ (rdP (0, 0, 0, 0, 0, 0, 0, 0, 0, 0, ()) l i).2.2.2.2.1 ≤ 60) : ∀ i, i ≤ l.length → 0 ≤ loadR l f i ∧ loadR l f i ≤ 60 * i
  | 0, _ => ⟨Int.le_refl _, Int.le_refl _⟩
  | i + 1, h => by
    have ih := loadR_le (f := f) hw i (by omega)
    have := hw i (by omega)
    simp only [loadR]
    split <;> omega
noncomputable def loadM (x : HallT) (f : Int) : Int := @ite _ (HallP x ∧ (1 ≤ f ∧ f ≤ x.2.2.2.2.2.2.2.2.2.2.2.2.2.2.2.1.length)) (Classical.propDecidable _) (loadR x.2.2.2.2.2.2.2.2.2.2.2.2.2.2.2.2.1 f x.2.2.2.2.2.2.2.2.2.2.2.2.2.2.2.2.1.length) (-1)
theorem loadM_pos {x : HallT} {f : Int} (h : HallP x) (h2 : 1 ≤ f ∧ f ≤ x.2.2.2.2.2.2.2.2.2.2.2.2.2.2.2.1.length) : loadM x f = loadR x.2.2.2.2.2.2.2.2.2.2.2.2.2.2.2.2.1 f x.2.2.2.2.2.2.2.2.2.2.2.2.2.2.2.2.1.length := if_pos ⟨h, h2⟩
theorem loadM_neg {x : HallT} {f : Int} (h : ¬ (HallP x ∧ (1 ≤ f ∧ f ≤ x.2.2.2.2.2.2.2.2.2.2.2.2.2.2.2.1.length))) : loadM x f = -1 := if_neg h
theorem spec_LoadOf_f {k : Nat} (hk : K0 ≤ k) (x : HallT) (f : Int) (hs : SzT x) : spec_LoadOf.f k x f = some (loadM x f, ()) := by
  have h4 := spec_HallOk_f hk x hs.toSzH
  unfold K0 at hk
  have hc := hs.cases_
  unfold spec_LoadOf.f
  simp (disch := omega) only [lett_e, bnd_s, bnd_chk, br_not, br_t, br_f, br_T, br_F, not_true_eq_false, not_false_eq_true, chk_T, chk_F, chk_eq, eqI_dc, ltI_dc, leI_dc, eqN_dc, notB_dc, andB_dc, andB_t, eqB_dc, notB_t, notB_f, inR_dc, upR_dc, ln_e, app_e, tk_e, dp_e, upd_e, repl_e, natI_n, br_pos, br_neg, addI_n, fitN_T, h4, spec_l01In_f]
  by_cases hP : HallP x
  case neg => rw [br_neg hP, loadM_neg (fun z => hP z.1)]
  by_cases h2 : 1 ≤ f ∧ f ≤ x.2.2.2.2.2.2.2.2.2.2.2.2.2.2.2.1.length
  case neg => rw [br_pos hP, br_neg h2, loadM_neg (fun z => h2 z.2)]
  rw [br_pos hP, br_pos h2, loadM_pos hP h2]
  have hcs := hP.2.2.2.2.2.2.2.2.2.2.1
  have hl := loadR_le (l := x.2.2.2.2.2.2.2.2.2.2.2.2.2.2.2.2.1) (f := f) (fun i hi => (hcs i hi).2.2.1)
  refine loop_run (n := x.2.2.2.2.2.2.2.2.2.2.2.2.2.2.2.2.1.length) (fun i => (loadR x.2.2.2.2.2.2.2.2.2.2.2.2.2.2.2.2.1 f i, (i : Int), ())) (by simp [loadR]) (fun i hi rec => ?_) (fun rec => by simp (disch := omega) only [lett_e, bnd_s, bnd_chk, br_not, br_t, br_f, br_T, br_F, not_true_eq_false, not_false_eq_true, chk_T, chk_F, chk_eq, eqI_dc, ltI_dc, leI_dc, eqN_dc, notB_dc, andB_dc, andB_t, eqB_dc, notB_t, notB_f, inR_dc, upR_dc, ln_e, app_e, tk_e, dp_e, upd_e, repl_e, natI_n, br_pos, br_neg, addI_n, fitN_T]) (by omega)
  have h1 := hl i (by omega)
  have h3 := (hcs i hi).2.2.1
  by_cases e1 : (rdP (0, 0, 0, 0, 0, 0, 0, 0, 0, 0, ()) x.2.2.2.2.2.2.2.2.2.2.2.2.2.2.2.2.1 i).2.2.2.1 = f
  · by_cases e2 : (rdP (0, 0, 0, 0, 0, 0, 0, 0, 0, 0, ()) x.2.2.2.2.2.2.2.2.2.2.2.2.2.2.2.2.1 i).2.2.2.2.2.2.1 = 6
    · have : loadR x.2.2.2.2.2.2.2.2.2.2.2.2.2.2.2.2.1 f (i + 1) = loadR x.2.2.2.2.2.2.2.2.2.2.2.2.2.2.2.2.1 f i + (rdP (0, 0, 0, 0, 0, 0, 0, 0, 0, 0, ()) x.2.2.2.2.2.2.2.2.2.2.2.2.2.2.2.2.1 i).2.2.2.2.1 := by simp only [loadR]; rw [if_pos ⟨e1, e2⟩]
      rw [this]
      simp (disch := omega) only [lett_e, bnd_s, bnd_chk, br_not, br_t, br_f, br_T, br_F, not_true_eq_false, not_false_eq_true, chk_T, chk_F, chk_eq, eqI_dc, ltI_dc, leI_dc, eqN_dc, notB_dc, andB_dc, andB_t, eqB_dc, notB_t, notB_f, inR_dc, upR_dc, ln_e, app_e, tk_e, dp_e, upd_e, repl_e, natI_n, br_pos, br_neg, addI_n, fitN_T]
      rw [addI_id (x := loadR x.2.2.2.2.2.2.2.2.2.2.2.2.2.2.2.2.1 f i) (by omega)]
      rfl
    · have : loadR x.2.2.2.2.2.2.2.2.2.2.2.2.2.2.2.2.1 f (i + 1) = loadR x.2.2.2.2.2.2.2.2.2.2.2.2.2.2.2.2.1 f i := by simp only [loadR]; rw [if_neg (fun z => e2 z.2)]; omega
      rw [this]
      simp (disch := omega) only [lett_e, bnd_s, bnd_chk, br_not, br_t, br_f, br_T, br_F, not_true_eq_false, not_false_eq_true, chk_T, chk_F, chk_eq, eqI_dc, ltI_dc, leI_dc, eqN_dc, notB_dc, andB_dc, andB_t, eqB_dc, notB_t, notB_f, inR_dc, upR_dc, ln_e, app_e, tk_e, dp_e, upd_e, repl_e, natI_n, br_pos, br_neg, addI_n, fitN_T]
      rfl
  · have : loadR x.2.2.2.2.2.2.2.2.2.2.2.2.2.2.2.2.1 f (i + 1) = loadR x.2.2.2.2.2.2.2.2.2.2.2.2.2.2.2.2.1 f i := by simp only [loadR]; rw [if_neg (fun z => e1 z.1)]; omega
    rw [this]
    simp (disch := omega) only [lett_e, bnd_s, bnd_chk, br_not, br_t, br_f, br_T, br_F, not_true_eq_false, not_false_eq_true, chk_T, chk_F, chk_eq, eqI_dc, ltI_dc, leI_dc, eqN_dc, notB_dc, andB_dc, andB_t, eqB_dc, notB_t, notB_f, inR_dc, upR_dc, ln_e, app_e, tk_e, dp_e, upd_e, repl_e, natI_n, br_pos, br_neg, addI_n, fitN_T]
    rfl
theorem impl_LoadOf_f {k : Nat} (hk : K0 ≤ k) (x : HallT) (f : Int) (hs : SzT x) : impl_LoadOf.f k x f = some (loadM x f, ()) := by
  have h4 := impl_HallOk_f hk x hs
  rw [chk_congr (hall_same x)] at h4
  unfold K0 at hk
  have hc := hs.cases_
  unfold impl_LoadOf.f
  simp (disch := omega) only [lett_e, bnd_s, bnd_chk, br_not, br_t, br_f, br_T, br_F, not_true_eq_false, not_false_eq_true, chk_T, chk_F, chk_eq, eqI_dc, ltI_dc, leI_dc, eqN_dc, notB_dc, andB_dc, andB_t, eqB_dc, notB_t, notB_f, inR_dc, upR_dc, ln_e, app_e, tk_e, dp_e, upd_e, repl_e, natI_n, br_pos, br_neg, addI_n, fitN_T, h4, impl_isFlight_f]
  by_cases hP : HallP x
  case neg => rw [br_neg hP, loadM_neg (fun z => hP z.1)]
  by_cases h2 : 1 ≤ f ∧ f ≤ x.2.2.2.2.2.2.2.2.2.2.2.2.2.2.2.1.length
  case neg => rw [br_pos hP, br_neg h2, loadM_neg (fun z => h2 z.2)]
  rw [br_pos hP, br_pos h2, loadM_pos hP h2]
  have hcs := hP.2.2.2.2.2.2.2.2.2.2.1
  have hl := loadR_le (l := x.2.2.2.2.2.2.2.2.2.2.2.2.2.2.2.2.1) (f := f) (fun i hi => (hcs i hi).2.2.1)
  refine loop_run (n := x.2.2.2.2.2.2.2.2.2.2.2.2.2.2.2.2.1.length) (fun i => (loadR x.2.2.2.2.2.2.2.2.2.2.2.2.2.2.2.2.1 f i, (i : Int), ())) (by simp [loadR]) (fun i hi rec => ?_) (fun rec => by simp (disch := omega) only [lett_e, bnd_s, bnd_chk, br_not, br_t, br_f, br_T, br_F, not_true_eq_false, not_false_eq_true, chk_T, chk_F, chk_eq, eqI_dc, ltI_dc, leI_dc, eqN_dc, notB_dc, andB_dc, andB_t, eqB_dc, notB_t, notB_f, inR_dc, upR_dc, ln_e, app_e, tk_e, dp_e, upd_e, repl_e, natI_n, br_pos, br_neg, addI_n, fitN_T]) (by omega)
  have h1 := hl i (by omega)
  have h3 := (hcs i hi).2.2.1
  by_cases e1 : (rdP (0, 0, 0, 0, 0, 0, 0, 0, 0, 0, ()) x.2.2.2.2.2.2.2.2.2.2.2.2.2.2.2.2.1 i).2.2.2.1 = f
  · by_cases e2 : (rdP (0, 0, 0, 0, 0, 0, 0, 0, 0, 0, ()) x.2.2.2.2.2.2.2.2.2.2.2.2.2.2.2.2.1 i).2.2.2.2.2.2.1 = 6
    · have : loadR x.2.2.2.2.2.2.2.2.2.2.2.2.2.2.2.2.1 f (i + 1) = loadR x.2.2.2.2.2.2.2.2.2.2.2.2.2.2.2.2.1 f i + (rdP (0, 0, 0, 0, 0, 0, 0, 0, 0, 0, ()) x.2.2.2.2.2.2.2.2.2.2.2.2.2.2.2.2.1 i).2.2.2.2.1 := by simp only [loadR]; rw [if_pos ⟨e1, e2⟩]
      rw [this]
      simp (disch := omega) only [lett_e, bnd_s, bnd_chk, br_not, br_t, br_f, br_T, br_F, not_true_eq_false, not_false_eq_true, chk_T, chk_F, chk_eq, eqI_dc, ltI_dc, leI_dc, eqN_dc, notB_dc, andB_dc, andB_t, eqB_dc, notB_t, notB_f, inR_dc, upR_dc, ln_e, app_e, tk_e, dp_e, upd_e, repl_e, natI_n, br_pos, br_neg, addI_n, fitN_T]
      rw [addI_id (x := loadR x.2.2.2.2.2.2.2.2.2.2.2.2.2.2.2.2.1 f i) (by omega)]
      rfl
    · have : loadR x.2.2.2.2.2.2.2.2.2.2.2.2.2.2.2.2.1 f (i + 1) = loadR x.2.2.2.2.2.2.2.2.2.2.2.2.2.2.2.2.1 f i := by simp only [loadR]; rw [if_neg (fun z => e2 z.2)]; omega
      rw [this]
      simp (disch := omega) only [lett_e, bnd_s, bnd_chk, br_not, br_t, br_f, br_T, br_F, not_true_eq_false, not_false_eq_true, chk_T, chk_F, chk_eq, eqI_dc, ltI_dc, leI_dc, eqN_dc, notB_dc, andB_dc, andB_t, eqB_dc, notB_t, notB_f, inR_dc, upR_dc, ln_e, app_e, tk_e, dp_e, upd_e, repl_e, natI_n, br_pos, br_neg, addI_n, fitN_T]
      rfl
  · have : loadR x.2.2.2.2.2.2.2.2.2.2.2.2.2.2.2.2.1 f (i + 1) = loadR x.2.2.2.2.2.2.2.2.2.2.2.2.2.2.2.2.1 f i := by simp only [loadR]; rw [if_neg (fun z => e1 z.1)]; omega
    rw [this]
    simp (disch := omega) only [lett_e, bnd_s, bnd_chk, br_not, br_t, br_f, br_T, br_F, not_true_eq_false, not_false_eq_true, chk_T, chk_F, chk_eq, eqI_dc, ltI_dc, leI_dc, eqN_dc, notB_dc, andB_dc, andB_t, eqB_dc, notB_t, notB_f, inR_dc, upR_dc, ln_e, app_e, tk_e, dp_e, upd_e, repl_e, natI_n, br_pos, br_neg, addI_n, fitN_T]
    rfl
end Go.Proofs.YtpihkhknehadbaaGreat.Eng

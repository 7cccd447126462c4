/- What the laws' marks do to a hall and to a row of numbers. No condition. -/
import Derived.Test.YtcfbjloblbhdhaaPB
import Derived.Test.YtcfbjloblbhdhaaDFnExactRepack
namespace Go.Proofs.Ytcfbjloblbhdhaa.Eng
set_option linter.unusedVariables false
set_option linter.unusedSimpArgs false
theorem rd_set {α : Type} {d x : α} {l : List α} {i : Nat} (h : i < l.length) : rdP d (l.set i x) i = x := by unfold rdP; simp [h]
theorem rd_set_ne {α : Type} {d x : α} {l : List α} {i j : Nat} (h : i ≠ j) : rdP d (l.set i x) j = rdP d l j := by unfold rdP; simp [h]
/-- a mark: a later number, a row as long -/
def Mk {α : Type} (f : Option (Int × List α × Unit)) (m : Int) (n b : Nat) : Prop := ∃ (r : Int) (c : List α), f = some (r, c, ()) ∧ c.length = n ∧ m ≤ r ∧ r ≤ m + b * 1048576
theorem mark_loop {α : Type} {d : α} {k : Nat} (hk : K0 ≤ k) {l : List α} {m0 M : Int} {b : Nat} (hm : 0 ≤ m0 ∧ m0 ≤ M) (hl : l.length ≤ 1048576) {F : (List α × Int × Int × Unit → Option (Int × List α × Unit)) → List α × Int × Int × Unit → Option (Int × List α × Unit)}
    (hF : ∀ (i : Nat) (c : List α) (m : Int), i < l.length → c.length = l.length → rdP d c i = rdP d l i → 0 ≤ m → m ≤ M + b * 1048576 → ∃ x m', m ≤ m' ∧ m' ≤ m + b ∧ ∀ rec, F rec (c, m, (i : Int), ()) = rec (c.set i x, m', ((i + 1 : Nat) : Int), ()))
    (hE : ∀ c m rec, c.length = l.length → F rec (c, m, (l.length : Int), ()) = some (m, c, ())) : Mk (loopN F k (l, m0, 0, ())) m0 l.length b := by
  unfold K0 at hk
  obtain ⟨c, ⟨h1, h2, h3, h4, h5⟩, e⟩ : ∃ c : List α × Int × Int × Unit, (c.1.length = l.length ∧ (∀ j, l.length ≤ j → rdP d c.1 j = rdP d l j) ∧ m0 ≤ c.2.1 ∧ c.2.1 ≤ m0 + b * (l.length : Nat) ∧ c.2.2.1 = (l.length : Int)) ∧ loopN F k (l, m0, 0, ()) = some (c.2.1, c.1, ()) := by
    refine loop_inv2 (F := F) (k := k) (n := l.length) (c0 := (l, m0, 0, ())) (fun i c => c.1.length = l.length ∧ (∀ j, i ≤ j → rdP d c.1 j = rdP d l j) ∧ m0 ≤ c.2.1 ∧ c.2.1 ≤ m0 + b * (i : Nat) ∧ c.2.2.1 = (i : Int)) (fun c => some (c.2.1, c.1, ())) ⟨rfl, fun _ _ => rfl, Int.le_refl _, by simp, rfl⟩ ?hs ?he (by omega)
    case hs =>
      rintro i ⟨c, m, i', u⟩ hi ⟨h1, h2, h3, h4, h5⟩
      obtain rfl : i' = (i : Int) := h5
      have hbi : b * i ≤ b * 1048576 := Nat.mul_le_mul_left _ (by omega)
      have hbi' : (b : Int) * i ≤ b * 1048576 := Int.mul_le_mul_of_nonneg_left (by omega) (by omega)
      simp only at h1 h2 h3 h4
      obtain ⟨x, m', h6, h7, h8⟩ := hF i c m hi h1 (h2 i (Nat.le_refl _)) (by omega) (by omega)
      refine ⟨(c.set i x, m', ((i + 1 : Nat) : Int), ()), ⟨by simpa using h1, fun j hj => ?_, by simp only; omega, ?_, rfl⟩, h8⟩
      · show rdP d (c.set i x) j = _
        rw [rd_set_ne (by omega)]; exact h2 j (by omega)
      · show m' ≤ m0 + b * ((i + 1 : Nat) : Int)
        have : (b : Int) * ((i + 1 : Nat) : Int) = b * i + b := by rw [show ((i + 1 : Nat) : Int) = (i : Int) + 1 from rfl, Int.mul_add, Int.mul_one]
        omega
    case he =>
      rintro ⟨c, m, i', u⟩ ⟨h1, h2, h3, h4, h5⟩ rec
      obtain rfl : i' = (l.length : Int) := h5
      exact hE c m rec h1
  refine ⟨c.2.1, c.1, e, h1, h3, ?_⟩
  have hbi : b * l.length ≤ b * 1048576 := Nat.mul_le_mul_left _ hl
  have hbi' : (b : Int) * l.length ≤ b * 1048576 := Int.mul_le_mul_of_nonneg_left (by omega) (by omega)
  omega
theorem laws_markIntS_m {k : Nat} (hk : K0 ≤ k) (l : List (Int × Unit)) (hl : l.length ≤ 1048576) (m : Int) (hm : 0 ≤ m ∧ m ≤ 36028797018963968) : Mk (laws_markIntS.f k l m) m l.length 1 := by
  unfold laws_markIntS.f
  refine mark_loop (d := (0, ())) hk hm hl (fun i c m hi hc h1 h2 h3 => ?_) (fun c m rec hc => by simp (disch := omega) only [lett_e, bnd_s, bnd_chk, br_not, br_t, br_f, br_T, br_F, not_true_eq_false, not_false_eq_true, chk_T, chk_F, chk_eq, eqI_dc, ltI_dc, leI_dc, eqN_dc, notB_dc, andB_dc, andB_t, eqB_dc, notB_t, notB_f, inR_dc, upR_dc, ln_e, app_e, tk_e, dp_e, upd_e, repl_e, natI_n, br_pos, br_neg, addI_n, fitN_T, hc])
  apply Exists.intro
  refine ⟨m + 1, by omega, by omega, fun rec => ?_⟩
  simp (disch := omega) only [lett_e, bnd_s, bnd_chk, br_not, br_t, br_f, br_T, br_F, not_true_eq_false, not_false_eq_true, chk_T, chk_F, chk_eq, eqI_dc, ltI_dc, leI_dc, eqN_dc, notB_dc, andB_dc, andB_t, eqB_dc, notB_t, notB_f, inR_dc, upR_dc, ln_e, app_e, tk_e, dp_e, upd_e, repl_e, natI_n, br_pos, br_neg, addI_n, fitN_T, hc, rd_set, List.set_set, List.length_set, addI_id]
  rfl
section
variable {α R : Type} {d : α} {c : List α} {i : Nat} {m' : Int}
theorem mk_s0 (hi : i < c.length) {g : α → α} {K : (List α × Int × Int × Unit → Option R) → List α → Option R} (h : ∀ e, ∃ x, ∀ rec : List α × Int × Int × Unit → Option R, K rec (c.set i e) = rec (c.set i x, m', ((i + 1 : Nat) : Int), ())) : ∃ x, ∀ rec : List α × Int × Int × Unit → Option R, br (inR (i : Int) (ln c)) (lett (rdP d c (natI (i : Int))) fun e => lett (upd c (natI (i : Int)) (g e)) fun l => K rec l) none = rec (c.set i x, m', ((i + 1 : Nat) : Int), ()) := by
  obtain ⟨x, hx⟩ := h (g (rdP d c i))
  refine ⟨x, fun rec => ?_⟩
  rw [← hx rec, inR_dc, ln_e, br_pos (by omega)]
  rfl
theorem mk_s1 (hi : i < c.length) {e0 : α} {g : α → α} {K : (List α × Int × Int × Unit → Option R) → List α → Option R} (h : ∀ e, ∃ x, ∀ rec : List α × Int × Int × Unit → Option R, K rec (c.set i e) = rec (c.set i x, m', ((i + 1 : Nat) : Int), ())) : ∃ x, ∀ rec : List α × Int × Int × Unit → Option R, br (inR (i : Int) (ln (c.set i e0))) (lett (rdP d (c.set i e0) (natI (i : Int))) fun e => lett (upd (c.set i e0) (natI (i : Int)) (g e)) fun l => K rec l) none = rec (c.set i x, m', ((i + 1 : Nat) : Int), ()) := by
  obtain ⟨x, hx⟩ := h (g (rdP d (c.set i e0) i))
  refine ⟨x, fun rec => ?_⟩
  rw [← hx rec, inR_dc, ln_e, List.length_set, br_pos (by omega), lett_e, lett_e, upd_e, natI_n, List.set_set]
theorem mk_top (hi : i < c.length) {A B : (List α × Int × Int × Unit → Option R) → Option R} (h : ∃ x, ∀ rec : List α × Int × Int × Unit → Option R, A rec = rec (c.set i x, m', ((i + 1 : Nat) : Int), ())) : ∃ x, ∀ rec : List α × Int × Int × Unit → Option R, br (ltI (i : Int) (ln c)) (A rec) (B rec) = rec (c.set i x, m', ((i + 1 : Nat) : Int), ()) := by
  obtain ⟨x, hx⟩ := h
  refine ⟨x, fun rec => ?_⟩
  rw [← hx rec, ltI_dc, ln_e, br_pos (by omega)]
end
theorem mk_in {α R : Type} {c : List α} {i b : Nat} {m m' : Int} (h1 : m ≤ m') (h2 : m' ≤ m + b) {F0 : (List α × Int × Int × Unit → Option R) → Option R} (h : ∃ x, ∀ rec : List α × Int × Int × Unit → Option R, F0 rec = rec (c.set i x, m', ((i + 1 : Nat) : Int), ())) : ∃ x m', m ≤ m' ∧ m' ≤ m + b ∧ ∀ rec, F0 rec = rec (c.set i x, m', ((i + 1 : Nat) : Int), ()) := by
  obtain ⟨x, hx⟩ := h
  exact ⟨x, m', h1, h2, hx⟩
/-- a row of numbers, marked and read again -/
theorem laws_marked {k : Nat} (hk : K0 ≤ k) (l : List (Int × Unit)) (hl : l.length ≤ 1048576) (m : Int) (hm : 0 ≤ m ∧ m ≤ 36028797018963968) : ∃ c, laws_markIntS.f k l m = some (m + l.length, c, ()) ∧ laws_heldIntS.f k c m = some (m + l.length, ()) := by
  unfold K0 at hk
  obtain ⟨c, ⟨h1, h2, h3, h4⟩, e⟩ : ∃ c : List (Int × Unit) × Int × Int × Unit, _ ∧ laws_markIntS.f k l m = _ := by
    unfold laws_markIntS.f
    refine loop_inv2 (n := l.length) (fun i c => c.1.length = l.length ∧ (∀ j, j < i → rdP (0, ()) c.1 j = (m + j, ())) ∧ c.2.1 = m + i ∧ c.2.2.1 = (i : Int)) (fun c => some (c.2.1, c.1, ())) ⟨rfl, fun _ h => absurd h (by omega), by simp, rfl⟩ ?hs ?he (by omega)
    case hs =>
      rintro i ⟨c, m', i', u⟩ hi ⟨h1, h2, h3, h4⟩
      obtain rfl : i' = (i : Int) := h4
      obtain rfl : m' = m + i := h3
      simp only at h1 h2
      refine ⟨(c.set i (m + i, ()), m + i + 1, ((i + 1 : Nat) : Int), ()), ⟨by simpa using h1, fun j hj => ?_, by simp only; omega, rfl⟩, fun rec => ?_⟩
      · show rdP _ (c.set i _) j = _
        by_cases hj2 : j = i
        · subst hj2; rw [rd_set (by omega)]
        · rw [rd_set_ne (by omega)]; exact h2 j (by omega)
      · simp (disch := omega) only [lett_e, bnd_s, bnd_chk, br_not, br_t, br_f, br_T, br_F, not_true_eq_false, not_false_eq_true, chk_T, chk_F, chk_eq, eqI_dc, ltI_dc, leI_dc, eqN_dc, notB_dc, andB_dc, andB_t, eqB_dc, notB_t, notB_f, inR_dc, upR_dc, ln_e, app_e, tk_e, dp_e, upd_e, repl_e, natI_n, br_pos, br_neg, addI_n, fitN_T, h1, addI_id]
        rfl
    case he =>
      rintro ⟨c, m', i', u⟩ ⟨h1, h2, h3, h4⟩ rec
      obtain rfl : i' = (l.length : Int) := h4
      simp only at h1
      simp (disch := omega) only [lett_e, bnd_s, bnd_chk, br_not, br_t, br_f, br_T, br_F, not_true_eq_false, not_false_eq_true, chk_T, chk_F, chk_eq, eqI_dc, ltI_dc, leI_dc, eqN_dc, notB_dc, andB_dc, andB_t, eqB_dc, notB_t, notB_f, inR_dc, upR_dc, ln_e, app_e, tk_e, dp_e, upd_e, repl_e, natI_n, br_pos, br_neg, addI_n, fitN_T, h1]
  refine ⟨c.1, by rw [e, h3], ?_⟩
  unfold laws_heldIntS.f
  refine loop_run (n := l.length) (fun i => (m + i, (i : Int), ())) (by simp) (fun i hi rec => ?_) (fun rec => by simp (disch := omega) only [lett_e, bnd_s, bnd_chk, br_not, br_t, br_f, br_T, br_F, not_true_eq_false, not_false_eq_true, chk_T, chk_F, chk_eq, eqI_dc, ltI_dc, leI_dc, eqN_dc, notB_dc, andB_dc, andB_t, eqB_dc, notB_t, notB_f, inR_dc, upR_dc, ln_e, app_e, tk_e, dp_e, upd_e, repl_e, natI_n, br_pos, br_neg, addI_n, fitN_T, h1]) (by omega)
  have h5 := h2 i hi
  simp (disch := omega) only [lett_e, bnd_s, bnd_chk, br_not, br_t, br_f, br_T, br_F, not_true_eq_false, not_false_eq_true, chk_T, chk_F, chk_eq, eqI_dc, ltI_dc, leI_dc, eqN_dc, notB_dc, andB_dc, andB_t, eqB_dc, notB_t, notB_f, inR_dc, upR_dc, ln_e, app_e, tk_e, dp_e, upd_e, repl_e, natI_n, br_pos, br_neg, addI_n, fitN_T, h1, h5, addI_id]
  congr 2
  omega
end Go.Proofs.Ytcfbjloblbhdhaa.Eng

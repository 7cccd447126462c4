/- What the laws' marks do to a hall, and that they are held. No condition. -/
import Derived.Test.YtcfbjloblbhdhaaPB
import Derived.Test.YtcfbjloblbhdhaaDFnExactRepack
namespace Go.Proofs.Ytcfbjloblbhdhaa.Eng
set_option linter.unusedVariables false
set_option linter.unusedSimpArgs false
theorem rd_set' {α : Type} {d x : α} {l : List α} {i : Nat} (h : i < l.length) : rdP d (l.set i x) i = x := by unfold rdP; simp [h]
theorem rd_set_ne' {α : Type} {d x : α} {l : List α} {i j : Nat} (h : i ≠ j) : rdP d (l.set i x) j = rdP d l j := by unfold rdP; simp [h]
/-- a mark: a later number, a row as long; what was marked is held -/
def MkH {α : Type} (f : Option (Int × α × Unit)) (g : α → Int → Option (Int × Unit)) (m : Int) (b : Nat) : Prop := ∃ (r : Int) (c : α), f = some (r, c, ()) ∧ g c m = some (r, ()) ∧ m ≤ r ∧ r ≤ m + b * 1048576
theorem mh_loop {α : Type} {d : α} {k : Nat} (hk : K0 ≤ k) {l : List α} {m0 M : Int} {b : Nat} (hm : 0 ≤ m0 ∧ m0 ≤ M) (hl : l.length ≤ 1048576) {F : (List α × Int × Int × Unit → Option (Int × List α × Unit)) → List α × Int × Int × Unit → Option (Int × List α × Unit)} {G : List α → (Int × Int × Unit → Option (Int × Unit)) → Int × Int × Unit → Option (Int × Unit)}
    (hF : ∀ (i : Nat) (c : List α) (m : Int), i < l.length → c.length = l.length → rdP d c i = rdP d l i → 0 ≤ m → m ≤ M + b * 1048576 → ∃ x m', (m ≤ m' ∧ m' ≤ m + b) ∧ (∀ rec, F rec (c, m, (i : Int), ()) = rec (c.set i x, m', ((i + 1 : Nat) : Int), ())) ∧ ∀ (c' : List α) rec, c'.length = l.length → rdP d c' i = x → G c' rec (m, (i : Int), ()) = rec (m', ((i + 1 : Nat) : Int), ()))
    (hE : ∀ c m rec, c.length = l.length → F rec (c, m, (l.length : Int), ()) = some (m, c, ())) (hE' : ∀ (c : List α) m rec, c.length = l.length → G c rec (m, (l.length : Int), ()) = some (m, ())) : MkH (loopN F k (l, m0, 0, ())) (fun c m => loopN (G c) k (m, 0, ())) m0 b := by
  unfold K0 at hk
  have key : ∀ n i k (c : List α) (m : Int), i + n = l.length → n < k → c.length = l.length → (∀ j, i ≤ j → rdP d c j = rdP d l j) → m0 ≤ m → m ≤ m0 + b * (i : Nat) →
      (∀ c' k', c'.length = l.length → (∀ j, j < i → rdP d c' j = rdP d c j) → loopN (G c') (k' + i) (m0, 0, ()) = loopN (G c') k' (m, (i : Int), ())) →
      ∃ r c2, loopN F k (c, m, (i : Int), ()) = some (r, c2, ()) ∧ c2.length = l.length ∧ (∀ k', loopN (G c2) (k' + 1 + l.length) (m0, 0, ()) = some (r, ())) ∧ m0 ≤ r ∧ r ≤ m0 + b * (l.length : Nat) := by
    intro n
    induction n with
    | zero =>
      intro i k c m e hk hc hr h1 h2 ht
      obtain ⟨k', rfl⟩ : ∃ k', k = k' + 1 := ⟨k - 1, by omega⟩
      obtain rfl : i = l.length := by omega
      refine ⟨m, c, hE c m _ hc, hc, fun k' => ?_, h1, h2⟩
      rw [ht c (k' + 1) hc (fun _ _ => rfl)]
      exact hE' c m _ hc
    | succ n ih =>
      intro i k c m e hk hc hr h1 h2 ht
      obtain ⟨k', rfl⟩ : ∃ k', k = k' + 1 := ⟨k - 1, by omega⟩
      have hbi' : (b : Int) * i ≤ b * 1048576 := Int.mul_le_mul_of_nonneg_left (by omega) (by omega)
      obtain ⟨x, m', ⟨h3, h4⟩, h5, h6⟩ := hF i c m (by omega) hc (hr i (Nat.le_refl _)) (by omega) (by omega)
      have hbs : (b : Int) * ((i + 1 : Nat) : Int) = b * i + b := by rw [show ((i + 1 : Nat) : Int) = (i : Int) + 1 from rfl, Int.mul_add, Int.mul_one]
      obtain ⟨r, c2, h7, h8⟩ := ih (i + 1) k' (c.set i x) m' (by omega) (by omega) (by simpa using hc) (fun j hj => by rw [rd_set_ne' (by omega)]; exact hr j (by omega)) (by omega) (by omega) (fun c' k'' hc' hj => by
        rw [show k'' + (i + 1) = (k'' + 1) + i by omega, ht c' (k'' + 1) hc' (fun j hj2 => by rw [hj j (by omega), rd_set_ne' (by omega)])]
        exact h6 c' _ hc' (by rw [hj i (by omega), rd_set' (by omega)]))
      refine ⟨r, c2, ?_, h8⟩
      show F (loopN F k') (c, m, (i : Int), ()) = _
      rw [h5]
      exact h7
  obtain ⟨r, c2, h1, h2, h3, h4, h5⟩ := key l.length 0 k l m0 (by omega) (by omega) rfl (fun _ _ => rfl) (Int.le_refl _) (by simp) (fun _ _ _ _ => rfl)
  have hbi' : (b : Int) * (l.length : Nat) ≤ b * 1048576 := Int.mul_le_mul_of_nonneg_left (by omega) (by omega)
  refine ⟨r, c2, h1, ?_, h4, by omega⟩
  have := h3 (k - 1 - l.length)
  rw [show k - 1 - l.length + 1 + l.length = k by omega] at this
  exact this
section
variable {α R : Type} {d : α} {c : List α} {i : Nat}
theorem mh_0 (hi : i < c.length) (g : α → α) (K : List α → Option R) : br (inR (i : Int) (ln c)) (lett (rdP d c (natI (i : Int))) fun e => lett (upd c (natI (i : Int)) (g e)) fun l => K l) none = K (c.set i (g (rdP d c i))) := by
  rw [inR_dc, ln_e, br_pos (by omega)]
  rfl
theorem mh_1 (hi : i < c.length) (e0 : α) (g : α → α) (K : List α → Option R) : br (inR (i : Int) (ln (c.set i e0))) (lett (rdP d (c.set i e0) (natI (i : Int))) fun e => lett (upd (c.set i e0) (natI (i : Int)) (g e)) fun l => K l) none = K (c.set i (g e0)) := by
  rw [inR_dc, ln_e, List.length_set, br_pos (by omega), lett_e, lett_e, upd_e, natI_n, List.set_set, rd_set' hi]
theorem mh_t (hi : i < c.length) (A B : Option R) : br (ltI (i : Int) (ln c)) A B = A := by
  rw [ltI_dc, ln_e, br_pos (by omega)]
theorem mh_e {n : Nat} (hi : c.length = n) (A B : Option R) : br (ltI (n : Int) (ln c)) A B = B := by
  rw [ltI_dc, ln_e, hi, br_neg (by omega)]
end
/-- one check of what is held -/
theorem hd_1 {R : Type} (x : Int) (A B : Option R) : br (notB (eqI x x)) A B = B := by
  rw [eqI_dc, notB_dc, br_neg (fun h => h rfl)]
theorem laws_markIntS_h {k : Nat} (hk : K0 ≤ k) (l : List (Int × Unit)) (hl : l.length ≤ 1048576) (m : Int) (hm : 0 ≤ m ∧ m ≤ 36028797018963968) : MkH (laws_markIntS.f k l m) (laws_heldIntS.f k) m 1 := by
  unfold laws_markIntS.f laws_heldIntS.f
  refine mh_loop (d := (0, ())) hk hm hl (fun i c m hi hc h1 h2 h3 => ⟨(m, ()), m + 1, by omega, fun rec => ?_, fun c' rec hc' e => ?_⟩) (fun c m rec hc => mh_e hc _ _) (fun c m rec hc => mh_e hc _ _)
  · have h : i < c.length := by omega
    refine (mh_t h _ _).trans ?_
    refine (mh_0 h _ _).trans ?_
    simp (disch := omega) only [lett_e, bnd_s, bnd_chk, br_not, br_t, br_f, br_T, br_F, not_true_eq_false, not_false_eq_true, chk_T, chk_F, chk_eq, eqI_dc, ltI_dc, leI_dc, eqN_dc, notB_dc, andB_dc, andB_t, eqB_dc, notB_t, notB_f, inR_dc, upR_dc, ln_e, app_e, tk_e, dp_e, upd_e, repl_e, natI_n, br_pos, br_neg, addI_n, fitN_T, addI_id]
    rfl
  · simp (disch := omega) only [lett_e, bnd_s, bnd_chk, br_not, br_t, br_f, br_T, br_F, not_true_eq_false, not_false_eq_true, chk_T, chk_F, chk_eq, eqI_dc, ltI_dc, leI_dc, eqN_dc, notB_dc, andB_dc, andB_t, eqB_dc, notB_t, notB_f, inR_dc, upR_dc, ln_e, app_e, tk_e, dp_e, upd_e, repl_e, natI_n, br_pos, br_neg, addI_n, fitN_T, hc', e, addI_id]
    rfl
theorem mh_3 {R : Type} (A B : Option R) : br (notB (eqI 3 0)) A B = A := by
  rw [eqI_dc, notB_dc, br_pos (by omega)]
end Go.Proofs.Ytcfbjloblbhdhaa.Eng

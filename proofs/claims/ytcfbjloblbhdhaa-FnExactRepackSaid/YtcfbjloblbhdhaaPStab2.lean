/- slices.SortStableFunc at pieces: runs merged in place. No condition. -/
import Derived.Test.YtcfbjloblbhdhaaPStab
import Derived.Test.YtcfbjloblbhdhaaDFnExactRepack
namespace Go.Proofs.Ytcfbjloblbhdhaa.Eng
set_option linter.unusedVariables false
set_option linter.unusedSimpArgs false
theorem swap_f {k : Nat} (hk : K0 ≤ k) (A X M Y B : List Pc) (hxy : X.length = Y.length) (hl : (A ++ X ++ M ++ Y ++ B).length ≤ 1048576) :
    slices_swapRangeCmpFunc_impl_Piece.f k (A ++ X ++ M ++ Y ++ B) (A.length : Int) ((A.length + X.length + M.length : Nat) : Int) (X.length : Int) = some (A ++ Y ++ M ++ X ++ B, ()) := by
  unfold K0 at hk
  have hl' : A.length + X.length + M.length + Y.length + B.length ≤ 1048576 := by simp at hl; omega
  unfold slices_swapRangeCmpFunc_impl_Piece.f
  refine loop_rds (P := fun r => r = some (A ++ Y ++ M ++ X ++ B, ())) (n := X.length) (fun i c => c = (A ++ Y.take i ++ (X.drop i ++ M ++ X.take i ++ Y.drop i ++ B), (i : Int), ())) (by simp) ?_ ?_ (by omega)
  · rintro i c rec hi rfl
    refine ⟨_, rfl, ?_⟩
    have hd : X.drop i = rP X i :: X.drop (i + 1) := drop_s hi
    have hd2 : Y.drop i = rP Y i :: Y.drop (i + 1) := drop_s (by omega)
    have e0 : A ++ Y.take i ++ (X.drop i ++ M ++ X.take i ++ Y.drop i ++ B) = (A ++ Y.take i) ++ rP X i :: (X.drop (i + 1) ++ M ++ X.take i ++ Y.drop i ++ B) := by rw [hd]; simp
    have e1 : ∀ z, (A ++ Y.take i) ++ z :: (X.drop (i + 1) ++ M ++ X.take i ++ Y.drop i ++ B) = (A ++ Y.take i ++ z :: (X.drop (i + 1) ++ M ++ X.take i)) ++ rP Y i :: (Y.drop (i + 1) ++ B) := fun z => by rw [hd2]; simp
    have l1 : A.length + i = (A ++ Y.take i).length := by simp; omega
    have l2 : ∀ z : Pc, A.length + X.length + M.length + i = (A ++ Y.take i ++ z :: (X.drop (i + 1) ++ M ++ X.take i)).length := fun z => by simp; omega
    have hlen : (A ++ Y.take i ++ (X.drop i ++ M ++ X.take i ++ Y.drop i ++ B)).length = A.length + X.length + M.length + Y.length + B.length := by simp; omega
    have r1 : rdP (0, 0, 0, ()) (A ++ Y.take i ++ (X.drop i ++ M ++ X.take i ++ Y.drop i ++ B)) (A.length + i) = rP X i := by rw [e0]; exact rd_mid' _ _ _ l1
    have r2 : rdP (0, 0, 0, ()) (A ++ Y.take i ++ (X.drop i ++ M ++ X.take i ++ Y.drop i ++ B)) (A.length + X.length + M.length + i) = rP Y i := by rw [e0, e1]; exact rd_mid' _ _ _ (l2 _)
    have s1 : ∀ z, (A ++ Y.take i ++ (X.drop i ++ M ++ X.take i ++ Y.drop i ++ B)).set (A.length + i) z = (A ++ Y.take i) ++ z :: (X.drop (i + 1) ++ M ++ X.take i ++ Y.drop i ++ B) := fun z => by rw [e0]; exact set_mid' _ _ _ _ l1
    generalize hc : A ++ Y.take i ++ (X.drop i ++ M ++ X.take i ++ Y.drop i ++ B) = c at *
    have s2 : ((c.set (A.length + i) (rP Y i)).set (A.length + X.length + M.length + i) (rP X i)) = A ++ Y.take (i + 1) ++ (X.drop (i + 1) ++ M ++ X.take (i + 1) ++ Y.drop (i + 1) ++ B) := by
      rw [s1, e1, set_mid' _ _ _ _ (l2 _), take_s (d := (0, 0, 0, ())) hi, take_s (d := (0, 0, 0, ())) (show i < Y.length by omega)]
      simp
    simp only [pc_eta]
    simp (disch := omega) only [lett_e, bnd_s, bnd_chk, br_not, br_t, br_f, br_T, br_F, not_true_eq_false, not_false_eq_true, chk_T, chk_F, chk_eq, eqI_dc, ltI_dc, leI_dc, eqN_dc, notB_dc, andB_dc, andB_t, eqB_dc, notB_t, notB_f, inR_dc, upR_dc, ln_e, app_e, tk_e, dp_e, upd_e, repl_e, natI_n, br_pos, br_neg, addI_nat, addI_nn, subI_n1, subI_nn, fitN_T, List.length_set, List.length_append, List.length_cons, List.length_nil, r1, r2, pc_eta]
    rw [s2]
  · rintro c rec rfl
    simp (disch := omega) only [lett_e, bnd_s, bnd_chk, br_not, br_t, br_f, br_T, br_F, not_true_eq_false, not_false_eq_true, chk_T, chk_F, chk_eq, eqI_dc, ltI_dc, leI_dc, eqN_dc, notB_dc, andB_dc, andB_t, eqB_dc, notB_t, notB_f, inR_dc, upR_dc, ln_e, app_e, tk_e, dp_e, upd_e, repl_e, natI_n, br_pos, br_neg, addI_nat, addI_nn, subI_n1, subI_nn, fitN_T, List.length_set, List.length_append, List.length_cons, List.length_nil]
    rw [List.take_length, List.drop_length, hxy, List.take_length, List.drop_length]
    simp
theorem rot_f {k : Nat} (hk : K0 ≤ k) (A X Y B : List Pc) (hx : 0 < X.length) (hy : 0 < Y.length) (hl : (A ++ X ++ Y ++ B).length ≤ 1048576) :
    slices_rotateCmpFunc_impl_Piece.f k (A ++ X ++ Y ++ B) (A.length : Int) ((A.length + X.length : Nat) : Int) ((A.length + X.length + Y.length : Nat) : Int) = some (A ++ Y ++ X ++ B, ()) := by
  have hk' := hk
  unfold K0 at hk
  have hl' : A.length + X.length + Y.length + B.length ≤ 1048576 := by simp at hl; omega
  unfold slices_rotateCmpFunc_impl_Piece.f
  refine loop_msr (P := fun r => r = some (A ++ Y ++ X ++ B, ())) (f := X.length + Y.length) (fun f c => ∃ A' X' Y' B', f = X'.length + Y'.length ∧ 0 < X'.length ∧ 0 < Y'.length ∧ A'.length + X'.length = A.length + X.length ∧ (A' ++ X' ++ Y' ++ B').length ≤ 1048576 ∧ A' ++ Y' ++ X' ++ B' = A ++ Y ++ X ++ B ∧ c = (A' ++ X' ++ Y' ++ B', (X'.length : Int), (Y'.length : Int), ())) ?_ ⟨A, X, Y, B, rfl, hx, hy, rfl, hl, rfl, ?_⟩ (by omega)
  rotate_left
  · simp (disch := omega) only [lett_e, bnd_s, bnd_chk, br_not, br_t, br_f, br_T, br_F, not_true_eq_false, not_false_eq_true, chk_T, chk_F, chk_eq, eqI_dc, ltI_dc, leI_dc, eqN_dc, notB_dc, andB_dc, andB_t, eqB_dc, notB_t, notB_f, inR_dc, upR_dc, ln_e, app_e, tk_e, dp_e, upd_e, repl_e, natI_n, br_pos, br_neg, addI_nat, addI_nn, subI_n1, subI_nn, fitN_T, List.length_set, List.length_append, List.length_cons, List.length_nil]
    rw [show A.length + X.length - A.length = X.length by omega, show A.length + X.length + Y.length - (A.length + X.length) = Y.length by omega]
  rintro f c rec ⟨A', X', Y', B', rfl, hx', hy', hm, hll, he, rfl⟩
  have hll' : A'.length + X'.length + Y'.length + B'.length ≤ 1048576 := by simp at hll; omega
  by_cases heq : X'.length = Y'.length
  · left
    have := swap_f (k := k) hk' A' X' [] Y' B' heq (by simpa using hll)
    simp only [List.append_nil, List.length_nil, Nat.add_zero] at this
    rw [← he]
    simp (disch := omega) only [lett_e, bnd_s, bnd_chk, br_not, br_t, br_f, br_T, br_F, not_true_eq_false, not_false_eq_true, chk_T, chk_F, chk_eq, eqI_dc, ltI_dc, leI_dc, eqN_dc, notB_dc, andB_dc, andB_t, eqB_dc, notB_t, notB_f, inR_dc, upR_dc, ln_e, app_e, tk_e, dp_e, upd_e, repl_e, natI_n, br_pos, br_neg, addI_nat, addI_nn, subI_n1, subI_nn, fitN_T, List.length_set, List.length_append, List.length_cons, List.length_nil, show A.length + X.length - X'.length = A'.length by omega]
    rw [hm] at this
    rw [this]
    rfl
  · right
    by_cases hlt : Y'.length < X'.length
    · have e1 : X' = X'.take Y'.length ++ X'.drop Y'.length := (List.take_append_drop _ _).symm
      have l1 : (X'.take Y'.length).length = Y'.length := by simp; omega
      have l2 : (X'.drop Y'.length).length = X'.length - Y'.length := by simp
      generalize X'.take Y'.length = X1 at *
      generalize X'.drop Y'.length = X2 at *
      have := swap_f (k := k) hk' A' X1 X2 Y' B' l1 (by rw [e1] at hll; simpa using hll)
      rw [show A' ++ X1 ++ X2 ++ Y' ++ B' = A' ++ X' ++ Y' ++ B' by rw [e1]; simp, show A'.length + X1.length + X2.length = A.length + X.length by omega, l1] at this
      refine ⟨X2.length + X1.length, _, by omega, ⟨A' ++ Y', X2, X1, B', rfl, by omega, by omega, by simp; omega, by rw [e1] at hll; simp at hll ⊢; omega, by rw [← he, e1]; simp, rfl⟩, ?_⟩
      simp (disch := omega) only [lett_e, bnd_s, bnd_chk, br_not, br_t, br_f, br_T, br_F, not_true_eq_false, not_false_eq_true, chk_T, chk_F, chk_eq, eqI_dc, ltI_dc, leI_dc, eqN_dc, notB_dc, andB_dc, andB_t, eqB_dc, notB_t, notB_f, inR_dc, upR_dc, ln_e, app_e, tk_e, dp_e, upd_e, repl_e, natI_n, br_pos, br_neg, addI_nat, addI_nn, subI_n1, subI_nn, fitN_T, List.length_set, List.length_append, List.length_cons, List.length_nil, show A.length + X.length - X'.length = A'.length by omega, this]
      rw [l1, l2]
    · have e1 : Y' = Y'.take (Y'.length - X'.length) ++ Y'.drop (Y'.length - X'.length) := (List.take_append_drop _ _).symm
      have l1 : (Y'.take (Y'.length - X'.length)).length = Y'.length - X'.length := by simp
      have l2 : (Y'.drop (Y'.length - X'.length)).length = X'.length := by simp; omega
      generalize Y'.take (Y'.length - X'.length) = Y1 at *
      generalize Y'.drop (Y'.length - X'.length) = Y2 at *
      have := swap_f (k := k) hk' A' X' Y1 Y2 B' l2.symm (by rw [e1] at hll; simpa using hll)
      rw [show A' ++ X' ++ Y1 ++ Y2 ++ B' = A' ++ X' ++ Y' ++ B' by rw [e1]; simp] at this
      refine ⟨Y2.length + Y1.length, _, by omega, ⟨A', Y2, Y1, X' ++ B', rfl, by omega, by omega, by omega, by rw [e1] at hll; simp at hll ⊢; omega, by rw [← he, e1]; simp, rfl⟩, ?_⟩
      simp (disch := omega) only [lett_e, bnd_s, bnd_chk, br_not, br_t, br_f, br_T, br_F, not_true_eq_false, not_false_eq_true, chk_T, chk_F, chk_eq, eqI_dc, ltI_dc, leI_dc, eqN_dc, notB_dc, andB_dc, andB_t, eqB_dc, notB_t, notB_f, inR_dc, upR_dc, ln_e, app_e, tk_e, dp_e, upd_e, repl_e, natI_n, br_pos, br_neg, addI_nat, addI_nn, subI_n1, subI_nn, fitN_T, List.length_set, List.length_append, List.length_cons, List.length_nil, show A.length + X.length - X'.length = A'.length by omega, show A.length + X.length + Y'.length - X'.length = A'.length + X'.length + Y1.length by omega, this]
      rw [l1, l2]
      simp
end Go.Proofs.Ytcfbjloblbhdhaa.Eng

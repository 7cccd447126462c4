/- slices.SortStableFunc at pieces: what the library's code computes. No condition. -/
import Derived.Test.YtcfbjloblbhdhaaPSym
import Derived.Test.YtcfbjloblbhdhaaDFnExactRepack
namespace Go.Proofs.Ytcfbjloblbhdhaa.Eng
set_option linter.unusedVariables false
set_option linter.unusedSimpArgs false
abbrev Pc := Int × Int × Int × Unit
abbrev rP (l : List Pc) (i : Nat) : Pc := rdP (0, 0, 0, ()) l i
def ltP (a b : Pc) : Prop := b.2.1 < a.2.1 ∨ (b.2.1 = a.2.1 ∧ a.1 < b.1)
theorem ordP : Ord ltP := ⟨fun x y h => by unfold ltP at *; omega, fun x y z h1 h2 => by unfold ltP at *; omega⟩
theorem pc_eta (e : Pc) (u : Unit) : (e.1, e.2.1, e.2.2.1, u) = e := rfl
theorem cmp_int_f (k : Nat) (x y : Int) : cmp_Compare_int.f k x y = some (if x < y then -1 else if y < x then 1 else 0, ()) := by
  unfold cmp_Compare_int.f cmp_isNaN_int.f
  by_cases h1 : x < y
  · rw [if_pos h1]; simp (disch := omega) only [lett_e, bnd_s, bnd_chk, br_not, br_t, br_f, br_T, br_F, not_true_eq_false, not_false_eq_true, chk_T, chk_F, chk_eq, eqI_dc, ltI_dc, leI_dc, eqN_dc, notB_dc, andB_dc, andB_t, eqB_dc, notB_t, notB_f, inR_dc, upR_dc, ln_e, app_e, tk_e, dp_e, upd_e, repl_e, natI_n, br_pos, br_neg, addI_n, fitN_T]
  · by_cases h2 : y < x
    · rw [if_neg h1, if_pos h2]; simp (disch := omega) only [lett_e, bnd_s, bnd_chk, br_not, br_t, br_f, br_T, br_F, not_true_eq_false, not_false_eq_true, chk_T, chk_F, chk_eq, eqI_dc, ltI_dc, leI_dc, eqN_dc, notB_dc, andB_dc, andB_t, eqB_dc, notB_t, notB_f, inR_dc, upR_dc, ln_e, app_e, tk_e, dp_e, upd_e, repl_e, natI_n, br_pos, br_neg, addI_n, fitN_T]
    · rw [if_neg h1, if_neg h2]; simp (disch := omega) only [lett_e, bnd_s, bnd_chk, br_not, br_t, br_f, br_T, br_F, not_true_eq_false, not_false_eq_true, chk_T, chk_F, chk_eq, eqI_dc, ltI_dc, leI_dc, eqN_dc, notB_dc, andB_dc, andB_t, eqB_dc, notB_t, notB_f, inR_dc, upR_dc, ln_e, app_e, tk_e, dp_e, upd_e, repl_e, natI_n, br_pos, br_neg, addI_n, fitN_T]
theorem or_int_f {k : Nat} (hk : K0 ≤ k) (x y : Int) : cmp_Or_int.f k [(x, ()), (y, ())] = some (if x ≠ 0 then x else y, ()) := by
  unfold K0 at hk
  obtain ⟨k, rfl⟩ : ∃ j, k = j + 3 := ⟨k - 3, by omega⟩
  unfold cmp_Or_int.f
  have r0 : rdP (0, ()) [(x, ()), (y, ())] (natI 0) = (x, ()) := rfl
  have r1 : rdP (0, ()) [(x, ()), (y, ())] (natI (0 + 1)) = (y, ()) := rfl
  simp only [loopN]
  by_cases hx : x = 0
  · by_cases hy : y = 0
    · simp (disch := omega) only [lett_e, bnd_s, bnd_chk, br_not, br_t, br_f, br_T, br_F, not_true_eq_false, not_false_eq_true, chk_T, chk_F, chk_eq, eqI_dc, ltI_dc, leI_dc, eqN_dc, notB_dc, andB_dc, andB_t, eqB_dc, notB_t, notB_f, inR_dc, upR_dc, ln_e, app_e, tk_e, dp_e, upd_e, repl_e, natI_n, br_pos, br_neg, addI_n, fitN_T, r0, r1, List.length_cons, List.length_nil, addI_id]
      rw [if_neg (fun h => h hx), hy]
    · simp (disch := omega) only [lett_e, bnd_s, bnd_chk, br_not, br_t, br_f, br_T, br_F, not_true_eq_false, not_false_eq_true, chk_T, chk_F, chk_eq, eqI_dc, ltI_dc, leI_dc, eqN_dc, notB_dc, andB_dc, andB_t, eqB_dc, notB_t, notB_f, inR_dc, upR_dc, ln_e, app_e, tk_e, dp_e, upd_e, repl_e, natI_n, br_pos, br_neg, addI_n, fitN_T, r0, r1, List.length_cons, List.length_nil, addI_id]
      rw [if_neg (fun h => h hx)]
  · simp (disch := omega) only [lett_e, bnd_s, bnd_chk, br_not, br_t, br_f, br_T, br_F, not_true_eq_false, not_false_eq_true, chk_T, chk_F, chk_eq, eqI_dc, ltI_dc, leI_dc, eqN_dc, notB_dc, andB_dc, andB_t, eqB_dc, notB_t, notB_f, inR_dc, upR_dc, ln_e, app_e, tk_e, dp_e, upd_e, repl_e, natI_n, br_pos, br_neg, addI_n, fitN_T, r0, List.length_cons, List.length_nil]
    rw [if_pos hx]
theorem repack_cmp {k : Nat} (hk : K0 ≤ k) (a b : Pc) : ∃ c : Int, impl_Repack_1.f k a b = some (c, ()) ∧ (c < 0 ↔ ltP a b) := by
  unfold impl_Repack_1.f
  simp only [cmp_int_f, bnd_s, or_int_f hk]
  refine ⟨_, rfl, ?_⟩
  unfold ltP
  split <;> rename_i h <;> (try split at h) <;> (repeat' split) <;> (try split at h) <;> omega
theorem half_nat (a b : Nat) (h : a + b < 4611686018427387904) : cvtI .i64 (shrI .u64 (cvtI .u64 (addI .i64 (a : Int) (b : Int))) 1) = (((a + b) / 2 : Nat) : Int) := by
  rw [addI_id (by omega)]
  have h1 : cvtI .u64 ((a : Int) + b) = (a : Int) + b := by
    have e : ∀ x : Int, IntKind.u64.wrap x = x % 18446744073709551616 := fun x => by
      unfold IntKind.wrap
      simp [IntKind.bits, IntKind.signed]
    unfold cvtI
    rw [e]; omega
  rw [h1]
  have h2 : shrI .u64 ((a : Int) + b) 1 = (((a + b) / 2 : Nat) : Int) := by
    show ((a : Int) + b).fdiv 2 = _
    rw [Int.fdiv_eq_ediv_of_nonneg _ (by decide)]
    omega
  rw [h2]
  exact wrap_id (by omega)
theorem mulI_id {x y : Int} (h : -9223372036854775808 ≤ x * y ∧ x * y < 9223372036854775808) : mulI .i64 x y = x * y := wrap_id h
section
variable {R : Type} {P : Option R → Prop}
/-! ### One element moved -/
theorem ins_in {F : (List Pc × Int × Unit → Option R) → List Pc × Int × Unit → Option R} {J : List Pc → Option R} (A B : List Pc) (x : Pc) (h1 : ∀ l rec, F rec (l, (A.length : Int), ()) = J l)
    (h2 : ∀ (l : List Pc) (j : Nat) rec, A.length < j → j < l.length → l.length ≤ 1048576 → F rec (l, (j : Int), ()) = br (dc (ltP (rP l j) (rP l (j - 1)))) (rec ((l.set j (rP l (j - 1))).set (j - 1) (rP l j), ((j - 1 : Nat) : Int), ())) (J l)) {S : List Pc} {c0 : List Pc × Int × Unit} {k : Nat}
    (e : c0 = (A ++ S ++ x :: B, ((A.length + S.length : Nat) : Int), ())) (hs : Srt ltP S) (hl : (A ++ S ++ x :: B).length ≤ 1048576) (hk : S.length < k) (hP : ∀ Z, Z.Perm (S ++ [x]) → Srt ltP Z → P (J (A ++ Z ++ B))) : P (loopN F k c0) := by
  refine loop_msr (fun f c => ∃ S1 S2, S = S1 ++ S2 ∧ f = S1.length ∧ (∀ s ∈ S2, ltP x s) ∧ c = (A ++ S1 ++ x :: (S2 ++ B), ((A.length + S1.length : Nat) : Int), ())) ?step (f := S.length) ⟨S, [], by simp, rfl, by simp, by rw [e]; rfl⟩ hk
  case step =>
    rintro f c rec ⟨S1, S2, rfl, rfl, hx, rfl⟩
    have hl' : A.length + (S1.length + S2.length) + (B.length + 1) ≤ 1048576 := by simp at hl; omega
    cases hn : S1.length with
    | zero =>
      left
      obtain rfl : S1 = [] := List.length_eq_zero_iff.1 hn
      rw [Nat.add_zero, h1]
      have := hP (x :: S2) (by simpa using List.perm_append_comm (l₁ := [x]) (l₂ := S2)) (List.pairwise_cons.2 ⟨fun s hs => ordP.asymm _ _ (hx s hs), hs⟩)
      simpa using this
    | succ n =>
      obtain ⟨S0, y, rfl⟩ := last_split (show 0 < S1.length by omega)
      have hS : S0.length = n := by simpa using hn
      have e0 : A ++ (S0 ++ [y]) ++ x :: (S2 ++ B) = (A ++ S0) ++ y :: x :: (S2 ++ B) := by simp
      have elen : A.length + (n + 1) = (A ++ S0).length + 1 := by simp [hS]; omega
      rw [h2 _ _ _ (by omega) (by simp; omega) (by simp; omega), e0, elen]
      have r1 : rP (A ++ S0 ++ y :: x :: (S2 ++ B)) ((A ++ S0).length + 1) = x := rd_mid2 _ _ _ _ rfl
      have r2 : rP (A ++ S0 ++ y :: x :: (S2 ++ B)) ((A ++ S0).length + 1 - 1) = y := rd_mid' _ _ _ (by omega)
      rw [r1, r2, set_mid2 _ _ _ _ _ rfl, set_mid' _ _ _ _ (show (A ++ S0).length + 1 - 1 = (A ++ S0).length by omega)]
      by_cases hlt : ltP x y
      · right
        rw [br_pos hlt]
        refine ⟨n, _, by omega, ⟨S0, y :: S2, by simp, hS.symm, fun s h => ?_, ?_⟩, rfl⟩
        · rcases List.mem_cons.1 h with e | e
          · rw [e]; exact hlt
          · exact hx s e
        · rw [show (A ++ S0).length + 1 - 1 = A.length + S0.length by simp]
          simp
      · left
        rw [br_neg hlt]
        have := hP (S0 ++ [y] ++ x :: S2) ?_ (srt_put ordP hs (fun A' z e => ?_) (fun z B' e => ordP.asymm _ _ (hx z (by simp [e]))))
        · simpa using this
        · have := List.Perm.append_left (S0 ++ [y]) (List.perm_append_comm (l₁ := [x]) (l₂ := S2))
          simpa using this
        · obtain ⟨_, e2⟩ := List.append_inj' e (by simp)
          cases e2; exact hlt
theorem up_in {F : (List Pc × Int × Unit → Option R) → List Pc × Int × Unit → Option R} {J : List Pc → Option R} (A Y B : List Pc) (x : Pc) (h1 : ∀ l rec, F rec (l, ((A.length + Y.length : Nat) : Int), ()) = J l)
    (h2 : ∀ (l : List Pc) (j : Nat) rec, A.length ≤ j → j < A.length + Y.length → j + 1 < l.length → l.length ≤ 1048576 → F rec (l, (j : Int), ()) = rec ((l.set j (rP l (j + 1))).set (j + 1) (rP l j), ((j + 1 : Nat) : Int), ())) {c0 : List Pc × Int × Unit} {k : Nat}
    (e : c0 = (A ++ x :: (Y ++ B), (A.length : Int), ())) (hl : (A ++ x :: (Y ++ B)).length ≤ 1048576) (hk : Y.length < k) (hP : P (J (A ++ Y ++ x :: B))) : P (loopN F k c0) := by
  have hl' : A.length + (Y.length + B.length + 1) ≤ 1048576 := by simp at hl; omega
  refine loop_rds (n := Y.length) (fun i c => c = (A ++ Y.take i ++ x :: (Y.drop i ++ B), ((A.length + i : Nat) : Int), ())) (by simpa using e) ?_ ?_ hk
  · rintro i c rec hi rfl
    refine ⟨_, rfl, ?_⟩
    have hd : Y.drop i = rP Y i :: Y.drop (i + 1) := drop_s hi
    have e0 : A ++ Y.take i ++ x :: (Y.drop i ++ B) = (A ++ Y.take i) ++ x :: rP Y i :: (Y.drop (i + 1) ++ B) := by rw [hd]; simp
    have elen : A.length + i = (A ++ Y.take i).length := by simp; omega
    rw [h2 _ _ _ (by omega) (by omega) (by simp; omega) (by simp; omega), e0, elen]
    have r1 : rP ((A ++ Y.take i) ++ x :: rP Y i :: (Y.drop (i + 1) ++ B)) (A ++ Y.take i).length = x := rd_mid _ _ _
    have r2 : rP ((A ++ Y.take i) ++ x :: rP Y i :: (Y.drop (i + 1) ++ B)) ((A ++ Y.take i).length + 1) = rP Y i := rd_mid2 _ _ _ _ rfl
    rw [r1, r2, set_mid, set_mid2 _ _ _ _ _ rfl, take_s (d := (0, 0, 0, ())) hi]
    congr 2
    · simp
    · congr 1
      simp; omega
  · rintro c rec rfl
    rw [h1, List.take_length, List.drop_length, List.nil_append]
    exact hP
theorem dn_in {F : (List Pc × Int × Unit → Option R) → List Pc × Int × Unit → Option R} {J : List Pc → Option R} (A X B : List Pc) (y : Pc) (h1 : ∀ l rec, F rec (l, (A.length : Int), ()) = J l)
    (h2 : ∀ (l : List Pc) (j : Nat) rec, A.length < j → j < l.length → l.length ≤ 1048576 → F rec (l, (j : Int), ()) = rec ((l.set j (rP l (j - 1))).set (j - 1) (rP l j), ((j - 1 : Nat) : Int), ())) {c0 : List Pc × Int × Unit} {k : Nat}
    (e : c0 = (A ++ X ++ y :: B, ((A.length + X.length : Nat) : Int), ())) (hl : (A ++ X ++ y :: B).length ≤ 1048576) (hk : X.length < k) (hP : P (J (A ++ y :: (X ++ B)))) : P (loopN F k c0) := by
  have hl' : A.length + X.length + (B.length + 1) ≤ 1048576 := by simp at hl; omega
  refine loop_msr (fun f c => ∃ S1 S2, X = S1 ++ S2 ∧ f = S1.length ∧ c = (A ++ S1 ++ y :: (S2 ++ B), ((A.length + S1.length : Nat) : Int), ())) ?step (f := X.length) ⟨X, [], by simp, rfl, by rw [e]; rfl⟩ hk
  rintro f c rec ⟨S1, S2, rfl, rfl, rfl⟩
  cases hn : S1.length with
  | zero =>
    left
    obtain rfl : S1 = [] := List.length_eq_zero_iff.1 hn
    rw [Nat.add_zero, h1]
    simpa using hP
  | succ n =>
    right
    obtain ⟨S0, z, rfl⟩ := last_split (show 0 < S1.length by omega)
    have hS : S0.length = n := by simpa using hn
    have e0 : A ++ (S0 ++ [z]) ++ y :: (S2 ++ B) = (A ++ S0) ++ z :: y :: (S2 ++ B) := by simp
    have elen : A.length + (n + 1) = (A ++ S0).length + 1 := by simp [hS]; omega
    simp only [List.length_append, List.length_cons, List.length_nil] at hl'
    rw [h2 _ _ _ (by omega) (by simp; omega) (by simp; omega), e0, elen]
    have r1 : rP (A ++ S0 ++ z :: y :: (S2 ++ B)) ((A ++ S0).length + 1) = y := rd_mid2 _ _ _ _ rfl
    have r2 : rP (A ++ S0 ++ z :: y :: (S2 ++ B)) ((A ++ S0).length + 1 - 1) = z := rd_mid' _ _ _ (by omega)
    rw [r1, r2, set_mid2 _ _ _ _ _ rfl, set_mid' _ _ _ _ (show (A ++ S0).length + 1 - 1 = (A ++ S0).length by omega)]
    refine ⟨n, _, by omega, ⟨S0, z :: S2, by simp, hS.symm, ?_⟩, rfl⟩
    rw [show (A ++ S0).length + 1 - 1 = A.length + S0.length by simp]
    simp
/-- a place found by halving -/
theorem bs_in {F : (Int × Int × Unit → Option R) → Int × Int × Unit → Option R} {J : Nat → Option R} {lo hi k : Nat} (q : Nat → Prop) (hF1 : ∀ (i j : Nat) rec, lo ≤ i → i < j → j ≤ hi → F rec ((i : Int), (j : Int), ()) = br (dc (q ((i + j) / 2))) (rec ((((i + j) / 2 + 1 : Nat) : Int), (j : Int), ())) (rec ((i : Int), (((i + j) / 2 : Nat) : Int), ())))
    (hF2 : ∀ (i : Nat) rec, lo ≤ i → i ≤ hi → F rec ((i : Int), (i : Int), ()) = J i) {c0 : Int × Int × Unit} (e : c0 = ((lo : Int), (hi : Int), ())) (hlo : lo ≤ hi) (hk : hi - lo < k) (hP : ∀ i, lo ≤ i → i ≤ hi → (i = lo ∨ q (i - 1)) → (i = hi ∨ ¬ q i) → P (J i)) : P (loopN F k c0) := by
  refine loop_msr (fun f c => ∃ i j : Nat, c = ((i : Int), (j : Int), ()) ∧ lo ≤ i ∧ i ≤ j ∧ j ≤ hi ∧ f = j - i ∧ (i = lo ∨ q (i - 1)) ∧ (j = hi ∨ ¬ q j)) ?step (f := hi - lo) ⟨lo, hi, e, Nat.le_refl _, hlo, Nat.le_refl _, rfl, .inl rfl, .inl rfl⟩ hk
  rintro f c rec ⟨i, j, rfl, h1, h2, h3, rfl, h4, h5⟩
  by_cases hij : i = j
  · subst hij
    left
    rw [hF2 i rec h1 h3]
    exact hP i h1 h3 h4 h5
  · right
    rw [hF1 i j rec h1 (by omega) h3]
    by_cases hq : q ((i + j) / 2)
    · rw [br_pos hq]
      exact ⟨_, _, by omega, ⟨(i + j) / 2 + 1, j, rfl, by omega, by omega, h3, rfl, .inr (by rw [Nat.add_sub_cancel]; exact hq), h5⟩, rfl⟩
    · rw [br_neg hq]
      exact ⟨_, _, by omega, ⟨i, (i + j) / 2, rfl, h1, by omega, by omega, rfl, h4, .inr hq⟩, rfl⟩
end
theorem ins_f {k : Nat} (hk : K0 ≤ k) (A X B : List Pc) (hl : (A ++ X ++ B).length ≤ 1048576) : ∃ Z, slices_insertionSortCmpFunc_impl_Piece.f k (A ++ X ++ B) (A.length : Int) ((A.length + X.length : Nat) : Int) = some (A ++ Z ++ B, ()) ∧ Z.Perm X ∧ Srt ltP Z := by
  have hk' := hk
  unfold K0 at hk
  have hl' : A.length + X.length + B.length ≤ 1048576 := by simp at hl; omega
  unfold slices_insertionSortCmpFunc_impl_Piece.f
  cases X with
  | nil =>
    refine ⟨[], ?_, List.Perm.refl _, List.Pairwise.nil⟩
    obtain ⟨k, rfl⟩ : ∃ j, k = j + 1 := ⟨k - 1, by omega⟩
    simp only [loopN]
    simp (disch := omega) only [lett_e, bnd_s, bnd_chk, br_not, br_t, br_f, br_T, br_F, not_true_eq_false, not_false_eq_true, chk_T, chk_F, chk_eq, eqI_dc, ltI_dc, leI_dc, eqN_dc, notB_dc, andB_dc, andB_t, eqB_dc, notB_t, notB_f, inR_dc, upR_dc, ln_e, app_e, tk_e, dp_e, upd_e, repl_e, natI_n, br_pos, br_neg, addI_nat, addI_nn, subI_n1, subI_nn, fitN_T, List.length_set, List.length_append, List.length_cons, List.length_nil, Nat.add_zero]
  | cons x0 X =>
    simp only [List.length_cons] at hl' ⊢
    refine loop_rds (P := fun r => ∃ Z, r = some (A ++ Z ++ B, ()) ∧ Z.Perm (x0 :: X) ∧ Srt ltP Z) (n := X.length) (fun i c => ∃ Z, c = (A ++ Z ++ X.drop i ++ B, ((A.length + 1 + i : Nat) : Int), ()) ∧ Z.Perm (x0 :: X.take i) ∧ Srt ltP Z) ⟨[x0], by rw [addI_nat (by omega)]; simp, by simp, by simp [Srt]⟩ ?_ ?_ (by omega)
    · rintro i c rec hi ⟨Z, rfl, hp, hs⟩
      have hZ : Z.length = i + 1 := by rw [hp.length_eq]; simp; omega
      have hd : X.drop i = rP X i :: X.drop (i + 1) := drop_s hi
      simp only [lett_e]
      rw [ltI_dc, br_pos (show ((A.length + 1 + i : Nat) : Int) < ((A.length + (X.length + 1) : Nat) : Int) by omega)]
      refine ins_in (P := fun r => ∃ c', (∃ Z, c' = (A ++ Z ++ X.drop (i + 1) ++ B, ((A.length + 1 + (i + 1) : Nat) : Int), ()) ∧ Z.Perm (x0 :: X.take (i + 1)) ∧ Srt ltP Z) ∧ r = rec c') (J := fun l => rec (l, ((A.length + 1 + (i + 1) : Nat) : Int), ())) A (X.drop (i + 1) ++ B) (rP X i) ?h1 ?h2 (S := Z) ?e hs ?hl (by omega) ?hP
      case h1 => intro l rec2; simp (disch := omega) only [lett_e, bnd_s, bnd_chk, br_not, br_t, br_f, br_T, br_F, not_true_eq_false, not_false_eq_true, chk_T, chk_F, chk_eq, eqI_dc, ltI_dc, leI_dc, eqN_dc, notB_dc, andB_dc, andB_t, eqB_dc, notB_t, notB_f, inR_dc, upR_dc, ln_e, app_e, tk_e, dp_e, upd_e, repl_e, natI_n, br_pos, br_neg, addI_nat, addI_nn, subI_n1, subI_nn, fitN_T, List.length_set, List.length_append, List.length_cons, List.length_nil]; rfl
      case h2 =>
        intro l j rec2 h1 h2 h3
        obtain ⟨c, hc, hlt⟩ := repack_cmp (k := k) hk' (rP l j) (rP l (j - 1))
        have hc' : impl_Repack_1.f k (rdP (0, 0, 0, ()) l j) (rdP (0, 0, 0, ()) l (j - 1)) = some (c, ()) := hc
        simp only [pc_eta]
        simp (disch := omega) only [lett_e, bnd_s, bnd_chk, br_not, br_t, br_f, br_T, br_F, not_true_eq_false, not_false_eq_true, chk_T, chk_F, chk_eq, eqI_dc, ltI_dc, leI_dc, eqN_dc, notB_dc, andB_dc, andB_t, eqB_dc, notB_t, notB_f, inR_dc, upR_dc, ln_e, app_e, tk_e, dp_e, upd_e, repl_e, natI_n, br_pos, br_neg, addI_nat, addI_nn, subI_n1, subI_nn, fitN_T, List.length_set, List.length_append, List.length_cons, List.length_nil, hc', pc_eta]
        rw [br_iff hlt]
        rfl
      case e =>
        rw [hd, hZ]
        simp [Nat.add_assoc, Nat.add_comm, Nat.add_left_comm]
      case hl => simp [hZ]; omega
      case hP =>
        intro Z' p1 p2
        refine ⟨_, ⟨Z', rfl, p1.trans ?_, p2⟩, by simp⟩
        rw [take_s (d := (0, 0, 0, ())) hi, ← List.cons_append]
        exact List.Perm.append_right [rP X i] hp
    · rintro c rec ⟨Z, rfl, hp, hs⟩
      refine ⟨Z, ?_, by simpa using hp, hs⟩
      simp (disch := omega) only [lett_e, bnd_s, bnd_chk, br_not, br_t, br_f, br_T, br_F, not_true_eq_false, not_false_eq_true, chk_T, chk_F, chk_eq, eqI_dc, ltI_dc, leI_dc, eqN_dc, notB_dc, andB_dc, andB_t, eqB_dc, notB_t, notB_f, inR_dc, upR_dc, ln_e, app_e, tk_e, dp_e, upd_e, repl_e, natI_n, br_pos, br_neg, addI_nat, addI_nn, subI_n1, subI_nn, fitN_T, List.length_set, List.length_append, List.length_cons, List.length_nil]
      simp
end Go.Proofs.Ytcfbjloblbhdhaa.Eng

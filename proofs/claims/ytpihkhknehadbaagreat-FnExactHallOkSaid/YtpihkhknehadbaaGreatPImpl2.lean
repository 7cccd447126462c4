/- What the program's helpers on lists do. No condition. -/
import Derived.Test.YtpihkhknehadbaaGreatPImpl
namespace Go.Proofs.YtpihkhknehadbaaGreat.Eng
set_option linter.unusedVariables false
set_option linter.unusedSimpArgs false
theorem nilB_same {α β : Type} (l : List α) (a b : Option β) (h : l = [] → a = b) : nilB l a b = b := by
  cases l with
  | nil =>
    have := h rfl
    subst this
    unfold nilB both
    exact if_pos rfl
  | cons x l => rfl
theorem slices_Clone_int_int_f (k : Nat) {l : List (Int × Unit)} (h : l.length ≤ 1048576) : slices_Clone_int_int.f k l = some (l, ()) := by
  unfold slices_Clone_int_int.f
  have hf := fitL_T (l := ([] : List (Int × Unit))) (m := l) (by simp; omega)
  simp (disch := omega) only [lett_e, bnd_s, bnd_chk, br_not, br_t, br_f, br_T, br_F, not_true_eq_false, not_false_eq_true, chk_T, chk_F, chk_eq, eqI_dc, ltI_dc, leI_dc, eqN_dc, notB_dc, andB_dc, andB_t, eqB_dc, notB_t, notB_f, inR_dc, upR_dc, ln_e, app_e, tk_e, dp_e, upd_e, repl_e, natI_n, br_pos, br_neg, addI_n, fitN_T, hf, List.nil_append]
  exact nilB_same _ _ _ (fun e => by rw [e])
theorem impl_areIndexes_f {k : Nat} (hk : K0 ≤ k) (l : List (Int × Unit)) (n : Nat) (hl : l.length ≤ 1048576) : impl_areIndexes.f k l n = chkP (AscP l n) := by
  unfold K0 at hk
  unfold impl_areIndexes.f
  rw [loop_chk (n := l.length) (Q := True) (fun j => ((j : Int), ())) (fun i => (0 ≤ (rdP (0, ()) l i).1 ∧ (rdP (0, ()) l i).1 < n) ∧ (0 < i → (rdP (0, ()) l (i - 1)).1 < (rdP (0, ()) l i).1)) ?h0 ?hk0 ?hs0 ?he0]
  case h0 => simp
  case hk0 => omega
  case he0 => intro _ rec; simp (disch := omega) only [lett_e, bnd_s, bnd_chk, br_not, br_t, br_f, br_T, br_F, not_true_eq_false, not_false_eq_true, chk_T, chk_F, chk_eq, eqI_dc, ltI_dc, leI_dc, eqN_dc, notB_dc, andB_dc, andB_t, eqB_dc, notB_t, notB_f, inR_dc, upR_dc, ln_e, app_e, tk_e, dp_e, upd_e, repl_e, natI_n, br_pos, br_neg, addI_n, fitN_T]
  case hs0 =>
    intro i hi _ rec
    by_cases h0 : 0 < i
    · obtain ⟨i, rfl⟩ : ∃ m, i = m + 1 := ⟨i - 1, by omega⟩
      simp (disch := omega) only [lett_e, bnd_s, bnd_chk, br_not, br_t, br_f, br_T, br_F, not_true_eq_false, not_false_eq_true, chk_T, chk_F, chk_eq, eqI_dc, ltI_dc, leI_dc, eqN_dc, notB_dc, andB_dc, andB_t, eqB_dc, notB_t, notB_f, inR_dc, upR_dc, ln_e, app_e, tk_e, dp_e, upd_e, repl_e, natI_n, br_pos, br_neg, addI_n, fitN_T, subI_nat, Nat.add_sub_cancel, g1, g2]
      exact br_iff (by grind) _ _
    · simp (disch := omega) only [lett_e, bnd_s, bnd_chk, br_not, br_t, br_f, br_T, br_F, not_true_eq_false, not_false_eq_true, chk_T, chk_F, chk_eq, eqI_dc, ltI_dc, leI_dc, eqN_dc, notB_dc, andB_dc, andB_t, eqB_dc, notB_t, notB_f, inR_dc, upR_dc, ln_e, app_e, tk_e, dp_e, upd_e, repl_e, natI_n, br_pos, br_neg, addI_n, fitN_T, g1, g2]
      exact br_iff (by grind) _ _
  exact chk_congr ⟨fun z => z.1, fun z => ⟨z, trivial⟩⟩
theorem impl_areDifferent_f {k : Nat} (hk : K0 ≤ k) (l : List (Int × Unit)) (hl : l.length ≤ 1048576) : impl_areDifferent.f k l = chkP l.Nodup := by
  unfold K0 at hk
  unfold impl_areDifferent.f
  have hsl := sortL_length l
  have hnd : l.Nodup ↔ ∀ i, i + 1 < (sortL l).length → (rdP (0, ()) (sortL l) (i + 1)).1 ≠ (rdP (0, ()) (sortL l) i).1 := by
    rw [← sorted_nodup (sortL_sorted l)]; exact ((sortL_perm l).nodup_iff).symm
  simp (disch := omega) only [lett_e, bnd_s, bnd_chk, br_not, br_t, br_f, br_T, br_F, not_true_eq_false, not_false_eq_true, chk_T, chk_F, chk_eq, eqI_dc, ltI_dc, leI_dc, eqN_dc, notB_dc, andB_dc, andB_t, eqB_dc, notB_t, notB_f, inR_dc, upR_dc, ln_e, app_e, tk_e, dp_e, upd_e, repl_e, natI_n, br_pos, br_neg, addI_n, fitN_T, slices_Clone_int_int_f k hl, sortI_e k hl]
  generalize hs : sortL l = s at hsl hnd
  by_cases h2 : s.length < 2
  · simp (disch := omega) only [lett_e, bnd_s, bnd_chk, br_not, br_t, br_f, br_T, br_F, not_true_eq_false, not_false_eq_true, chk_T, chk_F, chk_eq, eqI_dc, ltI_dc, leI_dc, eqN_dc, notB_dc, andB_dc, andB_t, eqB_dc, notB_t, notB_f, inR_dc, upR_dc, ln_e, app_e, tk_e, dp_e, upd_e, repl_e, natI_n, br_pos, br_neg, addI_n, fitN_T]
    exact chk_congr ⟨fun _ => hnd.2 (fun i hi => by omega), fun _ => by omega⟩
  simp (disch := omega) only [lett_e, bnd_s, bnd_chk, br_not, br_t, br_f, br_T, br_F, not_true_eq_false, not_false_eq_true, chk_T, chk_F, chk_eq, eqI_dc, ltI_dc, leI_dc, eqN_dc, notB_dc, andB_dc, andB_t, eqB_dc, notB_t, notB_f, inR_dc, upR_dc, ln_e, app_e, tk_e, dp_e, upd_e, repl_e, natI_n, br_pos, br_neg, addI_n, fitN_T]
  rw [loop_while (n := s.length - 1) (r := chkP False) (e := chkP True) (fun i => (((i + 1 : Nat) : Int), ())) (fun i => (rdP (0, ()) s (i + 1)).1 ≠ (rdP (0, ()) s i).1) ?h0 ?hs0 ?he0 ?hk0]
  case h0 => rfl
  case hk0 => omega
  case he0 =>
    intro _ rec
    simp (disch := omega) only [lett_e, bnd_s, bnd_chk, br_not, br_t, br_f, br_T, br_F, not_true_eq_false, not_false_eq_true, chk_T, chk_F, chk_eq, eqI_dc, ltI_dc, leI_dc, eqN_dc, notB_dc, andB_dc, andB_t, eqB_dc, notB_t, notB_f, inR_dc, upR_dc, ln_e, app_e, tk_e, dp_e, upd_e, repl_e, natI_n, br_pos, br_neg, addI_n, fitN_T]
    exact chk_pos (by omega)
  case hs0 =>
    intro i hi _ rec
    simp (disch := omega) only [lett_e, bnd_s, bnd_chk, br_not, br_t, br_f, br_T, br_F, not_true_eq_false, not_false_eq_true, chk_T, chk_F, chk_eq, eqI_dc, ltI_dc, leI_dc, eqN_dc, notB_dc, andB_dc, andB_t, eqB_dc, notB_t, notB_f, inR_dc, upR_dc, ln_e, app_e, tk_e, dp_e, upd_e, repl_e, natI_n, br_pos, br_neg, addI_n, fitN_T, subI_nat]
    by_cases he : (rdP (0, ()) s (i + 1)).1 = (rdP (0, ()) s i).1
    case neg => rw [br_neg he, br_pos he]; rfl
    rw [br_pos he, br_neg (fun z => z he)]
    refine loop_inv (n := s.length - (i + 1) - 1) (fun j c => c.1.length = s.length ∧ ∃ m : Nat, c.2.1 = (m : Int) ∧ m ≤ i + 1 + j ∧ c.2.2.1 = ((j + 1 : Nat) : Int)) ⟨rfl, i + 1, rfl, by omega, by simp⟩ ?_ ?_ (by omega)
    · rintro j ⟨c, m', j', u'⟩ hj ⟨hc, m, e1, hm, e2⟩
      simp only at hc e1 e2
      subst e1; subst e2
      have hd : (c.drop (i + 1)).length = s.length - (i + 1) := by rw [List.length_drop, hc]
      by_cases hq : (rdP (0, ()) c (i + 1 + (j + 1))).1 = (rdP (0, ()) c (i + 1 + j)).1
      · refine ⟨(c, (m : Int), ((j + 1 + 1 : Nat) : Int), ()), ⟨hc, m, rfl, by omega, rfl⟩, fun rec => ?_⟩
        simp (disch := omega) only [lett_e, bnd_s, bnd_chk, br_not, br_t, br_f, br_T, br_F, not_true_eq_false, not_false_eq_true, chk_T, chk_F, chk_eq, eqI_dc, ltI_dc, leI_dc, eqN_dc, notB_dc, andB_dc, andB_t, eqB_dc, notB_t, notB_f, inR_dc, upR_dc, ln_e, app_e, tk_e, dp_e, upd_e, repl_e, natI_n, br_pos, br_neg, addI_n, fitN_T, subI_nat, hd]
        rfl
      · refine ⟨(c.set m (rdP (0, ()) c (i + 1 + (j + 1))), ((m + 1 : Nat) : Int), ((j + 1 + 1 : Nat) : Int), ()), ⟨by simpa using hc, m + 1, rfl, by omega, rfl⟩, fun rec => ?_⟩
        simp (disch := omega) only [lett_e, bnd_s, bnd_chk, br_not, br_t, br_f, br_T, br_F, not_true_eq_false, not_false_eq_true, chk_T, chk_F, chk_eq, eqI_dc, ltI_dc, leI_dc, eqN_dc, notB_dc, andB_dc, andB_t, eqB_dc, notB_t, notB_f, inR_dc, upR_dc, ln_e, app_e, tk_e, dp_e, upd_e, repl_e, natI_n, br_pos, br_neg, addI_n, fitN_T, subI_nat, hd]
        rfl
    · rintro ⟨c, m', j', u'⟩ ⟨hc, m, e1, hm, e2⟩ rec
      simp only at hc e1 e2
      subst e1; subst e2
      have hd : (c.drop (i + 1)).length = s.length - (i + 1) := by rw [List.length_drop, hc]
      have hd2 : (c.take m ++ List.replicate (c.drop m).length ((0 : Int), ())).length = s.length := by simp; omega
      simp (disch := omega) only [lett_e, bnd_s, bnd_chk, br_not, br_t, br_f, br_T, br_F, not_true_eq_false, not_false_eq_true, chk_T, chk_F, chk_eq, eqI_dc, ltI_dc, leI_dc, eqN_dc, notB_dc, andB_dc, andB_t, eqB_dc, notB_t, notB_f, inR_dc, upR_dc, ln_e, app_e, tk_e, dp_e, upd_e, repl_e, natI_n, br_pos, br_neg, addI_n, fitN_T, hd, hd2]
      refine chk_neg ?_
      rw [List.length_take, hd2]
      omega
  simp (disch := omega) only [lett_e, bnd_s, bnd_chk, br_not, br_t, br_f, br_T, br_F, not_true_eq_false, not_false_eq_true, chk_T, chk_F, chk_eq, eqI_dc, ltI_dc, leI_dc, eqN_dc, notB_dc, andB_dc, andB_t, eqB_dc, notB_t, notB_f, inR_dc, upR_dc, ln_e, app_e, tk_e, dp_e, upd_e, repl_e, natI_n, br_pos, br_neg, addI_n, fitN_T, br_chkF']
  refine chk_congr ?_
  rw [hnd]
  constructor
  · rintro ⟨h, _⟩ i hi; exact h i (by omega)
  · intro h; exact ⟨fun i hi => h i (by omega), trivial⟩
/-- what is left when the zeros are taken out in place -/
theorem del_nz {R : Type} {k : Nat} (hk : K0 ≤ k) (l : List (Int × Unit)) (hl : l.length ≤ 1048576) (K : List (Int × Unit) → Option R) {F1 : (Int × Unit → Option R) → Int × Unit → Option R} {F2 : (List (Int × Unit) × Int × Int × Unit → Option R) → List (Int × Unit) × Int × Int × Unit → Option R}
    (hF1 : ∀ (i : Nat) rec, i < l.length → F1 rec ((i : Int), ()) = br (dc ((rdP (0, ()) l i).1 = 0)) (loopN F2 k (l, (i : Int), ((i + 1 : Nat) : Int), ())) (rec (((i + 1 : Nat) : Int), ()))) (hE1 : ∀ rec, F1 rec ((l.length : Int), ()) = K l)
    (hF2 : ∀ (c : List (Int × Unit)) (i j : Nat) rec, c.length = l.length → i ≤ j → j < l.length → F2 rec (c, (i : Int), (j : Int), ()) = br (dc ((rdP (0, ()) c j).1 = 0)) (rec (c, (i : Int), ((j + 1 : Nat) : Int), ())) (rec (c.set i (rdP (0, ()) c j), ((i + 1 : Nat) : Int), ((j + 1 : Nat) : Int), ())))
    (hE2 : ∀ (c : List (Int × Unit)) (i : Nat) rec, c.length = l.length → i ≤ l.length → F2 rec (c, (i : Int), (l.length : Int), ()) = K (c.take i)) : loopN F1 k (0, ()) = K (nz l) := by
  unfold K0 at hk
  rcases loop_find (F := F1) (k := k) (n := l.length) (c0 := (0, ())) (e := K l) (fun i => ((i : Int), ())) (fun i => (rdP (0, ()) l i).1 = 0) (fun i => loopN F2 k (l, (i : Int), ((i + 1 : Nat) : Int), ())) (by simp) (by omega) (fun i hi _ rec => hF1 i rec hi) (fun _ rec => hE1 rec) with ⟨i0, hi0, h0, hb, e⟩ | ⟨h, e⟩
  · rw [e]
    have hpre : nz (l.take i0) = l.take i0 := by
      unfold nz
      rw [List.filter_eq_self]
      intro y hy
      obtain ⟨j, hj, ey⟩ := List.getElem_of_mem hy
      rw [List.length_take] at hj
      have := hb j (by omega)
      rw [rd_lt (by omega)] at this
      rw [List.getElem_take] at ey
      rw [← ey]; simpa using this
    have hst : ∀ j, (nz (l.take j)).length ≤ j := fun j => Nat.le_trans (nz_len _) (by rw [List.length_take]; omega)
    have hle : ∀ j, i0 < j → (nz (l.take j)).length < j := fun j hj => by
      have : l.take j = l.take i0 ++ (l.drop i0).take (j - i0) := by
        rw [← List.take_add, show i0 + (j - i0) = j by omega]
      have hd : l.drop i0 = rdP (0, ()) l i0 :: l.drop (i0 + 1) := by rw [rd_lt hi0]; exact (List.getElem_cons_drop hi0).symm
      have hz : nz (l.take j) = l.take i0 ++ nz ((l.drop (i0 + 1)).take (j - i0 - 1)) := by
        rw [this]
        conv => lhs; unfold nz
        rw [List.filter_append]
        congr 1
        rw [hd, show j - i0 = (j - i0 - 1) + 1 by omega, List.take_succ_cons, List.filter_cons]
        simp [h0, nz]
      rw [hz, List.length_append, List.length_take]
      have := nz_len ((l.drop (i0 + 1)).take (j - i0 - 1))
      rw [List.length_take, List.length_drop] at this
      omega
    refine loop_run (n := l.length - (i0 + 1)) (fun m => (nz (l.take (i0 + 1 + m)) ++ l.drop (nz (l.take (i0 + 1 + m))).length, ((nz (l.take (i0 + 1 + m))).length : Int), ((i0 + 1 + m : Nat) : Int), ())) ?_ ?_ ?_ (by omega)
    · have : nz (l.take (i0 + 1 + 0)) = l.take i0 := by
        rw [Nat.add_zero, nz_s hi0, hpre, if_neg (fun z => z h0), List.append_nil]
      simp only [this]
      rw [List.length_take, Nat.min_eq_left (by omega), List.take_append_drop]
      try rfl
    · intro m hm rec
      have hj : i0 + 1 + m < l.length := by omega
      have hlt := hle (i0 + 1 + m) (by omega)
      have hcl : (nz (l.take (i0 + 1 + m)) ++ l.drop (nz (l.take (i0 + 1 + m))).length).length = l.length := by
        rw [List.length_append, List.length_drop]; omega
      have hrd : rdP (0, ()) (nz (l.take (i0 + 1 + m)) ++ l.drop (nz (l.take (i0 + 1 + m))).length) (i0 + 1 + m) = rdP (0, ()) l (i0 + 1 + m) := by
        rw [rd_lt (by omega), rd_lt hj, List.getElem_append_right (by omega), List.getElem_drop]
        congr 1; omega
      rw [hF2 _ _ _ rec hcl (by omega) hj, hrd]
      by_cases hz : (rdP (0, ()) l (i0 + 1 + m)).1 = 0
      · have : nz (l.take (i0 + 1 + (m + 1))) = nz (l.take (i0 + 1 + m)) := by
          rw [← Nat.add_assoc, nz_s hj, if_neg (fun z => z hz), List.append_nil]
        rw [br_pos hz, this]; try rfl
      · have hn : nz (l.take (i0 + 1 + (m + 1))) = nz (l.take (i0 + 1 + m)) ++ [rdP (0, ()) l (i0 + 1 + m)] := by
          rw [← Nat.add_assoc, nz_s hj, if_pos hz]
        rw [br_neg hz, hn]
        have hset : (nz (l.take (i0 + 1 + m)) ++ l.drop (nz (l.take (i0 + 1 + m))).length).set (nz (l.take (i0 + 1 + m))).length (rdP (0, ()) l (i0 + 1 + m)) = nz (l.take (i0 + 1 + m)) ++ [rdP (0, ()) l (i0 + 1 + m)] ++ l.drop (nz (l.take (i0 + 1 + m)) ++ [rdP (0, ()) l (i0 + 1 + m)]).length := by
          rw [List.set_append_right _ _ (Nat.le_refl _), Nat.sub_self, List.length_append, List.append_assoc]
          congr 1
          rw [← List.getElem_cons_drop (show (nz (l.take (i0 + 1 + m))).length < l.length by omega)]
          rfl
        rw [hset, List.length_append]
        rfl
    · intro rec
      have e1 : i0 + 1 + (l.length - (i0 + 1)) = l.length := by omega
      rw [e1, List.take_length]
      have hcl : (nz l ++ l.drop (nz l).length).length = l.length := by
        rw [List.length_append, List.length_drop]; have := nz_len l; omega
      rw [hE2 _ _ rec hcl (nz_len l), List.take_left']
      rfl
  · rw [e]
    congr 1
    unfold nz
    rw [eq_comm, List.filter_eq_self]
    intro y hy
    obtain ⟨j, hj, ey⟩ := List.getElem_of_mem hy
    have := h j hj
    rw [rd_lt hj, ey] at this
    simpa using this
end Go.Proofs.YtpihkhknehadbaaGreat.Eng

/- Repacked pieces. No condition. -/
import Derived.Test.YtcfbjloblbhdhaaPLfit
import Derived.Test.YtcfbjloblbhdhaaDFnExactRepack
namespace Go.Proofs.Ytcfbjloblbhdhaa.Eng
set_option linter.unusedVariables false
set_option linter.unusedSimpArgs false
theorem srt_uniq {l a b : List Pc} (hn : (l.map (·.1)).Nodup) (h1 : a.Perm l) (h2 : b.Perm l) (s1 : Srt ltP a) (s2 : Srt ltP b) : a = b := by
  refine List.Perm.eq_of_pairwise (le := fun x y => ¬ ltP y x) (fun x y hx hy hxy hyx => ?_) s1 s2 (h1.trans h2.symm)
  have hx' := h1.mem_iff.1 hx
  have hy' := h2.mem_iff.1 hy
  obtain ⟨i, hi, rfl⟩ := List.getElem_of_mem hx'
  obtain ⟨j, hj, rfl⟩ := List.getElem_of_mem hy'
  have hkey : l[i].1 = l[j].1 := by unfold ltP at hxy hyx; omega
  unfold List.Nodup at hn
  rw [List.pairwise_iff_getElem] at hn
  rcases Nat.lt_trichotomy i j with h | h | h
  · have := hn i j (by simpa using hi) (by simpa using hj) h
    simp only [List.getElem_map] at this
    exact absurd hkey this
  · subst h; rfl
  · have := hn j i (by simpa using hj) (by simpa using hi) h
    simp only [List.getElem_map] at this
    exact absurd hkey.symm this
theorem FFm_perm {m : LimT} {l a b : List Pc} (h1 : a.Perm l) (h2 : b.Perm l) (s1 : Srt ltP a) (s2 : Srt ltP b) : FFm m a = FFm m b := by
  by_cases hl : PiecesP l
  · rw [srt_uniq hl.2.2 h1 h2 s1 s2]
  · unfold FFm
    rw [if_neg (fun z => hl ((piecesP_perm h1).1 z.2)), if_neg (fun z => hl ((piecesP_perm h2).1 z.2))]
theorem ltP_tot (x y : Pc) : ¬ ltP x y ∨ ¬ ltP y x := by unfold ltP; omega
/-- a sorted row, somehow -/
noncomputable def srtL (l : List Pc) : List Pc := l.mergeSort fun x y => dc (¬ ltP y x)
theorem srtL_perm (l : List Pc) : (srtL l).Perm l := List.mergeSort_perm l _
theorem srtL_srt (l : List Pc) : Srt ltP (srtL l) := by
  have := List.pairwise_mergeSort (le := fun x y : Pc => dc (¬ ltP y x)) (by intro a b c h1 h2; rw [dc_true] at *; exact ordP.ntrans _ _ _ h1 h2) (by intro a b; rw [Bool.or_eq_true, dc_true, dc_true]; exact (ltP_tot a b).symm) l
  exact this.imp fun h => dc_true.1 h
noncomputable def repM (m : LimT) (l : List Pc) : List Bx := FFm m (srtL l)
theorem Clone_Pc_f (k : Nat) {l : List Pc} (h : l.length ≤ 1048576) : slices_Clone_impl_Piece.f k l = some (l, ()) := by
  unfold slices_Clone_impl_Piece.f
  rw [nilB_same _ _ _ (by rintro rfl; simp (disch := omega) only [lett_e, bnd_s, bnd_chk, br_not, br_t, br_f, br_T, br_F, not_true_eq_false, not_false_eq_true, chk_T, chk_F, chk_eq, eqI_dc, ltI_dc, leI_dc, eqN_dc, notB_dc, andB_dc, andB_t, eqB_dc, notB_t, notB_f, inR_dc, upR_dc, ln_e, app_e, tk_e, dp_e, upd_e, repl_e, natI_n, br_pos, br_neg, addI_n, fitN_T, fit0 (l := ([] : List Pc)) (by simp)]; rfl)]
  have := fit0 h
  simp (disch := omega) only [lett_e, bnd_s, bnd_chk, br_not, br_t, br_f, br_T, br_F, not_true_eq_false, not_false_eq_true, chk_T, chk_F, chk_eq, eqI_dc, ltI_dc, leI_dc, eqN_dc, notB_dc, andB_dc, andB_t, eqB_dc, notB_t, notB_f, inR_dc, upR_dc, ln_e, app_e, tk_e, dp_e, upd_e, repl_e, natI_n, br_pos, br_neg, addI_n, fitN_T, this, List.nil_append]
theorem impl_Repack_f {k : Nat} (hk : K0 ≤ k) (m : LimT) (l : List Pc) (hl : l.length ≤ 1048576) : impl_Repack.f k m l = some (repM m l, ()) := by
  obtain ⟨z, h1, h2, h3⟩ := stab_f hk l hl
  have h4 := impl_FirstFit_f hk (m.1, m.2.1, ()) z (by rw [h2.length_eq]; exact hl)
  unfold impl_Repack.f
  rw [Clone_Pc_f k hl, bnd_s, h1, bnd_s, h4, bnd_s]
  unfold repM
  rw [show (m.1, m.2.1, ()) = m from rfl, FFm_perm h2 (srtL_perm l) h3 (srtL_srt l)]
/-- two elements that change places -/
theorem swp_perm {l : List Pc} {i j : Nat} (hi : i < l.length) (hj : j < l.length) : ((l.set i (rP l j)).set j (rP l i)).Perm l := by
  unfold rP
  rw [rd_lt hi, rd_lt hj]
  exact List.set_set_perm hi hj
theorem swp_at {l : List Pc} {i j a : Nat} (hi : i < l.length) (hj : j < l.length) : rP ((l.set i (rP l j)).set j (rP l i)) a = if a = j then rP l i else if a = i then rP l j else rP l a := by
  unfold rP rdP
  simp only [List.getD_eq_getElem?_getD]
  rw [List.getElem?_set]
  by_cases h1 : j = a
  · subst h1; rw [if_pos rfl, if_pos rfl, if_pos (by simpa using hj)]; simp
  · rw [if_neg h1, if_neg (fun e => h1 e.symm), List.getElem?_set]
    by_cases h2 : i = a
    · subst h2; rw [if_pos rfl, if_pos rfl, if_pos hi]; simp
    · rw [if_neg h2, if_neg (fun e => h2 e.symm)]
theorem spec_Repack_f {k : Nat} (hk : K0 ≤ k) (m : LimT) (l : List Pc) (hl0 : l.length ≤ 1048576) : spec_Repack.f k m l = some (repM m l, ()) := by
  have h1 : spec_LimitsOk.f k (m.1, m.2.1, ()) = chkP (LimP m) := spec_LimitsOk_m k m
  have h2 := spec_PiecesOk_f hk l
  have hno : ¬ (LimP m ∧ PiecesP l) → repM m l = [] := fun h => by
    unfold repM FFm
    exact if_neg (fun z => h ⟨z.1, (piecesP_perm (srtL_perm l)).1 z.2⟩)
  unfold spec_Repack.f
  rw [h1, bnd_chk, br_not]
  by_cases hm : LimP m
  case neg => rw [br_neg hm, hno (fun z => hm z.1)]
  rw [br_pos hm, h2, bnd_chk, br_not]
  by_cases hl : PiecesP l
  case neg => rw [br_neg hl, hno (fun z => hl z.2)]
  rw [br_pos hl, fit0 hl0, br_t, lett_e, app_e, List.nil_append]
  have h40 := hl.1
  have hk' := hk
  unfold K0 at hk'
  refine loop_rds (P := fun r => r = some (repM m l, ())) (n := l.length) (fun i c => ∃ c', c = (c', (i : Int), ()) ∧ c'.Perm l ∧ ∀ a b, a < i → a < b → b < l.length → ¬ ltP (rP c' b) (rP c' a)) ⟨l, rfl, List.Perm.refl _, fun a b h => by omega⟩ ?_ ?_ (by omega)
  · rintro i c rec hi ⟨c', rfl, hp, hs⟩
    have hcl := hp.length_eq
    simp only [lett_e]
    rw [ltI_dc, ln_e, br_pos (by omega), addI_nat (by omega)]
    refine loop_rds (P := fun r => ∃ c'', (∃ c', c'' = (c', ((i + 1 : Nat) : Int), ()) ∧ c'.Perm l ∧ ∀ a b, a < i + 1 → a < b → b < l.length → ¬ ltP (rP c' b) (rP c' a)) ∧ r = rec c'') (n := l.length - (i + 1)) (fun t c => ∃ c', c = (c', ((i + 1 + t : Nat) : Int), ()) ∧ c'.Perm l ∧ (∀ a b, a < i → a < b → b < l.length → ¬ ltP (rP c' b) (rP c' a)) ∧ ∀ b, i < b → b < i + 1 + t → ¬ ltP (rP c' b) (rP c' i)) ⟨c', rfl, hp, hs, fun b h1 h2 => by omega⟩ ?_ ?_ (by omega)
    · rintro t c rec2 ht ⟨c', rfl, hp, hs, ht2⟩
      have hcl := hp.length_eq
      have hadd : addI .i64 ((i + 1 + t : Nat) : Int) 1 = ((i + 1 + (t + 1) : Nat) : Int) := addI_nat (by omega)
      by_cases hlt : ltP (rP c' (i + 1 + t)) (rP c' i)
      · refine ⟨_, ⟨(c'.set i (rP c' (i + 1 + t))).set (i + 1 + t) (rP c' i), rfl, (swp_perm (by omega) (by omega)).trans hp, fun a b g1 g2 g3 => ?_, fun b g1 g2 => ?_⟩, ?_⟩
        · rw [swp_at (by omega) (by omega), swp_at (by omega) (by omega), if_neg (show ¬ a = i + 1 + t by omega), if_neg (show ¬ a = i by omega)]
          split
          · exact hs a i g1 g1 (by omega)
          · split
            · exact hs a (i + 1 + t) g1 (by omega) (by omega)
            · exact hs a b g1 g2 g3
        · rw [swp_at (by omega) (by omega), swp_at (by omega) (by omega), if_neg (show ¬ i = i + 1 + t by omega), if_pos rfl]
          split
          · exact ordP.asymm _ _ hlt
          · rw [if_neg (by omega)]
            exact ordP.ntrans _ _ _ (ordP.asymm _ _ hlt) (ht2 b g1 (by omega))
        · rcases hlt with hlt | ⟨hlt, hlt2⟩
          · have hlt : (rdP (0, 0, 0, ()) c' i).2.1 < (rdP (0, 0, 0, ()) c' (i + 1 + t)).2.1 := hlt
            simp (disch := omega) only [lett_e, bnd_s, bnd_chk, br_not, br_t, br_f, br_T, br_F, not_true_eq_false, not_false_eq_true, chk_T, chk_F, chk_eq, eqI_dc, ltI_dc, leI_dc, eqN_dc, notB_dc, andB_dc, andB_t, eqB_dc, notB_t, notB_f, inR_dc, upR_dc, ln_e, app_e, tk_e, dp_e, upd_e, repl_e, natI_n, br_pos, br_neg, addI_nat, addI_nn, subI_n1, subI_nn, fitN_T, List.length_set, List.length_append, List.length_cons, List.length_nil, hadd, pc_eta]
          · have hlt : (rdP (0, 0, 0, ()) c' i).2.1 = (rdP (0, 0, 0, ()) c' (i + 1 + t)).2.1 := hlt
            have hlt2 : (rdP (0, 0, 0, ()) c' (i + 1 + t)).1 < (rdP (0, 0, 0, ()) c' i).1 := hlt2
            simp (disch := omega) only [lett_e, bnd_s, bnd_chk, br_not, br_t, br_f, br_T, br_F, not_true_eq_false, not_false_eq_true, chk_T, chk_F, chk_eq, eqI_dc, ltI_dc, leI_dc, eqN_dc, notB_dc, andB_dc, andB_t, eqB_dc, notB_t, notB_f, inR_dc, upR_dc, ln_e, app_e, tk_e, dp_e, upd_e, repl_e, natI_n, br_pos, br_neg, addI_nat, addI_nn, subI_n1, subI_nn, fitN_T, List.length_set, List.length_append, List.length_cons, List.length_nil, hadd, pc_eta]
      · refine ⟨_, ⟨c', rfl, hp, hs, fun b g1 g2 => ?_⟩, ?_⟩
        · by_cases e : b = i + 1 + t
          · rw [e]; exact hlt
          · exact ht2 b g1 (by omega)
        · have h1 : ¬ (rdP (0, 0, 0, ()) c' i).2.1 < (rdP (0, 0, 0, ()) c' (i + 1 + t)).2.1 := fun z => hlt (.inl z)
          by_cases h2 : (rdP (0, 0, 0, ()) c' (i + 1 + t)).2.1 = (rdP (0, 0, 0, ()) c' i).2.1
          · have h3 : ¬ (rdP (0, 0, 0, ()) c' (i + 1 + t)).1 < (rdP (0, 0, 0, ()) c' i).1 := fun z => hlt (.inr ⟨h2.symm, z⟩)
            simp (disch := omega) only [lett_e, bnd_s, bnd_chk, br_not, br_t, br_f, br_T, br_F, not_true_eq_false, not_false_eq_true, chk_T, chk_F, chk_eq, eqI_dc, ltI_dc, leI_dc, eqN_dc, notB_dc, andB_dc, andB_t, eqB_dc, notB_t, notB_f, inR_dc, upR_dc, ln_e, app_e, tk_e, dp_e, upd_e, repl_e, natI_n, br_pos, br_neg, addI_nat, addI_nn, subI_n1, subI_nn, fitN_T, List.length_set, List.length_append, List.length_cons, List.length_nil, hadd, pc_eta]
          · simp (disch := omega) only [lett_e, bnd_s, bnd_chk, br_not, br_t, br_f, br_T, br_F, not_true_eq_false, not_false_eq_true, chk_T, chk_F, chk_eq, eqI_dc, ltI_dc, leI_dc, eqN_dc, notB_dc, andB_dc, andB_t, eqB_dc, notB_t, notB_f, inR_dc, upR_dc, ln_e, app_e, tk_e, dp_e, upd_e, repl_e, natI_n, br_pos, br_neg, addI_nat, addI_nn, subI_n1, subI_nn, fitN_T, List.length_set, List.length_append, List.length_cons, List.length_nil, hadd, pc_eta]
    · rintro c rec2 ⟨c', rfl, hp, hs, ht2⟩
      have hcl := hp.length_eq
      refine ⟨_, ⟨c', rfl, hp, fun a b g1 g2 g3 => ?_⟩, ?_⟩
      · by_cases e : a = i
        · subst e; exact ht2 b g2 (by omega)
        · exact hs a b (by omega) g2 g3
      · simp (disch := omega) only [lett_e, bnd_s, bnd_chk, br_not, br_t, br_f, br_T, br_F, not_true_eq_false, not_false_eq_true, chk_T, chk_F, chk_eq, eqI_dc, ltI_dc, leI_dc, eqN_dc, notB_dc, andB_dc, andB_t, eqB_dc, notB_t, notB_f, inR_dc, upR_dc, ln_e, app_e, tk_e, dp_e, upd_e, repl_e, natI_n, br_pos, br_neg, addI_nat, addI_nn, subI_n1, subI_nn, fitN_T, List.length_set, List.length_append, List.length_cons, List.length_nil]
  · rintro c rec ⟨c', rfl, hp, hs⟩
    have hcl := hp.length_eq
    have h4 : spec_FirstFit.f k (m.1, m.2.1, ()) c' = some (FFm m c', ()) := spec_FirstFit_f hk m c'
    have hsrt : Srt ltP c' := by
      unfold Srt
      rw [List.pairwise_iff_getElem]
      intro a b ha hb hab
      have := hs a b (by omega) hab (by omega)
      unfold rP at this
      rwa [rd_lt ha, rd_lt hb] at this
    simp (disch := omega) only [lett_e, bnd_s, bnd_chk, br_not, br_t, br_f, br_T, br_F, not_true_eq_false, not_false_eq_true, chk_T, chk_F, chk_eq, eqI_dc, ltI_dc, leI_dc, eqN_dc, notB_dc, andB_dc, andB_t, eqB_dc, notB_t, notB_f, inR_dc, upR_dc, ln_e, app_e, tk_e, dp_e, upd_e, repl_e, natI_n, br_pos, br_neg, addI_nat, addI_nn, subI_n1, subI_nn, fitN_T, List.length_set, List.length_append, List.length_cons, List.length_nil, h4]
    unfold repM
    rw [FFm_perm hp (srtL_perm l) hsrt (srtL_srt l)]
end Go.Proofs.Ytcfbjloblbhdhaa.Eng

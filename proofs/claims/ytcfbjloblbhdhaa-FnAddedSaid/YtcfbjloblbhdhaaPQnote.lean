/- Notes: what the program's functions compute, and merging. No condition. -/
import Derived.Test.YtcfbjloblbhdhaaPMerge
import Derived.Test.YtcfbjloblbhdhaaEngSortN
import Derived.Test.YtcfbjloblbhdhaaDFnAdded
import Derived.Test.YtcfbjloblbhdhaaDFnMerged
namespace Go.Proofs.Ytcfbjloblbhdhaa.Eng
set_option linter.unusedVariables false
set_option linter.unusedSimpArgs false
theorem clone_note_f (k : Nat) {l : List NoteT} (h : l.length ≤ 1048576) : slices_Clone_impl_Note.f k l = some (l, ()) := by
  unfold slices_Clone_impl_Note.f
  simp (disch := omega) only [lett_e, bnd_s, bnd_chk, br_not, br_t, br_f, br_T, br_F, not_true_eq_false, not_false_eq_true, chk_T, chk_F, chk_eq, eqI_dc, ltI_dc, leI_dc, eqN_dc, notB_dc, andB_dc, andB_t, eqB_dc, notB_t, notB_f, inR_dc, upR_dc, ln_e, app_e, tk_e, dp_e, upd_e, repl_e, natI_n, br_pos, br_neg, addI_n, fitN_T, fit0 h, List.nil_append]
  exact nilB_same _ _ _ (fun e => by rw [e])
theorem insN_perm (n : NoteT) : ∀ l : List NoteT, (insN n l).Perm (l ++ [n])
  | [] => List.Perm.refl _
  | x :: xs => by
    rw [insN]
    split
    · exact (List.perm_append_singleton n (x :: xs)).symm
    · exact (insN_perm n xs).cons x
theorem sort_ins (k : Nat) {l : List NoteT} {n : NoteT} (h : NotesP l) (hn : ∀ x ∈ l, x.1 ≠ n.1) : sortN k (l ++ [n]) = some (insN n l, ()) := by
  have h60 := h.1
  have hasc := notesP_asc h
  have hnd : ((l ++ [n]).map (·.1)).Nodup := by
    rw [List.map_append]
    unfold List.Nodup
    rw [List.pairwise_append]
    refine ⟨?_, List.pairwise_singleton _ _, fun a ha b hb => ?_⟩
    · rw [List.pairwise_map]
      exact hasc.imp (fun h => by omega)
    · obtain ⟨x, hx, rfl⟩ := List.mem_map.1 ha
      simp only [List.map_cons, List.map_nil, List.mem_singleton] at hb
      rw [hb]
      exact hn x hx
  unfold sortN
  rw [if_pos ⟨by simp, by simp; omega, hnd⟩]
  congr 2
  exact sorted_one (·.1) (l ++ [n]) _ _ hnd (List.mergeSort_perm _ _) (insN_perm n l)
    ((List.pairwise_mergeSort (fun a b c h1 h2 => by simp at *; omega) (fun a b => by simp; omega) (l ++ [n])).imp (fun h => by simpa using h)) ((insN_pw n l hasc hn).imp fun h => by omega)
theorem noteAt_d {k : Nat} (hk : K0 ≤ k) (l : List NoteT) (s : Int) (hl : l.length ≤ 1048576) :
    (∃ i, i < l.length ∧ (rN l i).1 = s ∧ impl_noteAt.f k l s = some ((i : Int), ())) ∨ ((∀ x ∈ l, x.1 ≠ s) ∧ impl_noteAt.f k l s = some (-1, ())) := by
  unfold K0 at hk
  unfold impl_noteAt.f
  refine find_in (P := fun r => (∃ i, i < l.length ∧ (rN l i).1 = s ∧ r = some ((i : Int), ())) ∨ ((∀ x ∈ l, x.1 ≠ s) ∧ r = some (-1, ()))) (n := l.length) (J := fun i => some ((i : Int), ())) (E := some (-1, ())) (fun i => (rN l i).1 = s) ?_ ?_ (by omega) ?_ ?_
  · intro i rec hi; simp (disch := omega) only [lett_e, bnd_s, bnd_chk, br_not, br_t, br_f, br_T, br_F, not_true_eq_false, not_false_eq_true, chk_T, chk_F, chk_eq, eqI_dc, ltI_dc, leI_dc, eqN_dc, notB_dc, andB_dc, andB_t, eqB_dc, notB_t, notB_f, inR_dc, upR_dc, ln_e, app_e, tk_e, dp_e, upd_e, repl_e, natI_n, br_pos, br_neg, addI_nat, addI_nn, subI_n1, subI_nn, fitN_T, List.length_set, List.length_append, List.length_cons, List.length_nil]
  · intro rec; simp (disch := omega) only [lett_e, bnd_s, bnd_chk, br_not, br_t, br_f, br_T, br_F, not_true_eq_false, not_false_eq_true, chk_T, chk_F, chk_eq, eqI_dc, ltI_dc, leI_dc, eqN_dc, notB_dc, andB_dc, andB_t, eqB_dc, notB_t, notB_f, inR_dc, upR_dc, ln_e, app_e, tk_e, dp_e, upd_e, repl_e, natI_n, br_pos, br_neg, addI_nat, addI_nn, subI_n1, subI_nn, fitN_T, List.length_set, List.length_append, List.length_cons, List.length_nil]
  · intro i hi _ h; exact .inl ⟨i, hi, h, rfl⟩
  · intro h; exact .inr ⟨(all_rd (d := (0, 0, 0, 0, 0, ()))).1 h, rfl⟩
theorem impl_AddNote_f {k : Nat} (hk : K0 ≤ k) (l : List NoteT) (n : NoteT) (hl : l.length ≤ 1048576) : impl_AddNote.f k l n = some (addM l n) := by
  have h1 := impl_NotesOk_f hk l hl
  have h2 : impl_NoteOk.f k (n.1, n.2.1, n.2.2.1, n.2.2.2.1, n.2.2.2.2.1, ()) = chkP (NoteP n) := impl_NoteOk_f k n
  unfold impl_AddNote.f addM
  rw [clone_note_f k hl, bnd_s, h1, bnd_chk, br_not]
  by_cases hP : NotesP l
  case neg => rw [br_neg hP, if_neg (fun z => hP z.1)]
  rw [br_pos hP, h2, bnd_chk, br_not]
  by_cases hN : NoteP n
  case neg => rw [br_neg hN, if_neg (fun z => hN z.2)]
  rw [br_pos hN, if_pos ⟨hP, hN⟩]
  have hn0 := hN.1
  have hlen := hP.1
  have hasc := notesP_asc hP
  rcases noteAt_d hk l n.1 hl with ⟨i, hi, hs, e⟩ | ⟨hno, e⟩
  · have hat : atN n.1 l = rN l i := by rw [← hs]; exact atN_mem hasc (rN_mem hi)
    rw [e, bnd_s, hat]
    simp only [both_same, eqI_dc, andB_t, andB_dc]
    by_cases he : rN l i = n
    · rw [if_pos he]
      have he' := (nt_eq (rN l i) n).2 he
      simp (disch := omega) only [lett_e, bnd_s, bnd_chk, br_not, br_t, br_f, br_T, br_F, not_true_eq_false, not_false_eq_true, chk_T, chk_F, chk_eq, eqI_dc, ltI_dc, leI_dc, eqN_dc, notB_dc, andB_dc, andB_t, eqB_dc, notB_t, notB_f, inR_dc, upR_dc, ln_e, app_e, tk_e, dp_e, upd_e, repl_e, natI_n, br_pos, br_neg, addI_n, fitN_T, dc_T he']
    · rw [if_neg he, if_pos (.inl (by omega))]
      have he' : ¬ _ := fun z => he ((nt_eq (rN l i) n).1 z)
      simp (disch := omega) only [lett_e, bnd_s, bnd_chk, br_not, br_t, br_f, br_T, br_F, not_true_eq_false, not_false_eq_true, chk_T, chk_F, chk_eq, eqI_dc, ltI_dc, leI_dc, eqN_dc, notB_dc, andB_dc, andB_t, eqB_dc, notB_t, notB_f, inR_dc, upR_dc, ln_e, app_e, tk_e, dp_e, upd_e, repl_e, natI_n, br_pos, br_neg, addI_n, fitN_T, dc_F he']
  · have hat : atN n.1 l = nt0 := atN_none hno
    have hne : ¬ nt0 = n := fun z => by rw [← z] at hn0; exact absurd hn0.1 (by decide)
    rw [e, bnd_s, hat, if_neg hne, leI_dc, br_neg (by omega)]
    by_cases h60 : 60 ≤ l.length
    · rw [if_pos (.inr h60)]; simp (disch := omega) only [lett_e, bnd_s, bnd_chk, br_not, br_t, br_f, br_T, br_F, not_true_eq_false, not_false_eq_true, chk_T, chk_F, chk_eq, eqI_dc, ltI_dc, leI_dc, eqN_dc, notB_dc, andB_dc, andB_t, eqB_dc, notB_t, notB_f, inR_dc, upR_dc, ln_e, app_e, tk_e, dp_e, upd_e, repl_e, natI_n, br_pos, br_neg, addI_n, fitN_T]
    · rw [if_neg (fun z => z.elim (fun z => z rfl) h60)]
      have hf : fitL l [(n.1, n.2.1, n.2.2.1, n.2.2.2.1, n.2.2.2.2.1, ())] = true := fit1 n hl
      have hs : sortN k (l ++ [(n.1, n.2.1, n.2.2.1, n.2.2.2.1, n.2.2.2.2.1, ())]) = some (insN n l, ()) := sort_ins k hP hno
      simp (disch := omega) only [lett_e, bnd_s, bnd_chk, br_not, br_t, br_f, br_T, br_F, not_true_eq_false, not_false_eq_true, chk_T, chk_F, chk_eq, eqI_dc, ltI_dc, leI_dc, eqN_dc, notB_dc, andB_dc, andB_t, eqB_dc, notB_t, notB_f, inR_dc, upR_dc, ln_e, app_e, tk_e, dp_e, upd_e, repl_e, natI_n, br_pos, br_neg, addI_n, fitN_T, hf, hs]
theorem impl_MergeNotes_f {k : Nat} (hk : K0 ≤ k) (a b : List NoteT) (ha : a.length ≤ 1048576) (hb : b.length ≤ 1048576) : impl_MergeNotes.f k a b = some (mrgM a b) := by
  have e1 := impl_NotesOk_f hk a ha
  have e2 := impl_NotesOk_f hk b hb
  unfold impl_MergeNotes.f
  rw [e1, bnd_chk, br_not]
  by_cases h1 : NotesP a
  case neg => rw [br_neg h1, mrgM_neg (fun z => h1 z.1.1)]
  rw [br_pos h1, e2, bnd_chk, br_not]
  by_cases h2 : NotesP b
  case neg => rw [br_neg h2, mrgM_neg (fun z => h2 z.1.2)]
  rw [br_pos h2, clone_note_f k ha, bnd_s]
  have hb60 := h2.1
  have ha60 := h1.1
  have hk' := hk
  unfold K0 at hk'
  refine loop_msr (P := fun r => r = some (mrgM a b)) (fun f c => ∃ i : Nat, c = (mrg a b i, (i : Int), ()) ∧ i + f = b.length ∧ (mrg a b i).length ≤ 60 ∧ ∀ j, j < i → ¬ conf a (rN b j)) ?_ (f := b.length) ⟨0, rfl, by omega, ha60, fun j hj => by omega⟩ (by omega)
  rintro f c rec ⟨i, rfl, hi, hl, hc⟩
  cases f with
  | zero =>
    left
    obtain rfl : i = b.length := by omega
    rw [mrgM_pos ⟨⟨h1, h2⟩, hc, hl⟩]
    simp (disch := omega) only [lett_e, bnd_s, bnd_chk, br_not, br_t, br_f, br_T, br_F, not_true_eq_false, not_false_eq_true, chk_T, chk_F, chk_eq, eqI_dc, ltI_dc, leI_dc, eqN_dc, notB_dc, andB_dc, andB_t, eqB_dc, notB_t, notB_f, inR_dc, upR_dc, ln_e, app_e, tk_e, dp_e, upd_e, repl_e, natI_n, br_pos, br_neg, addI_n, fitN_T]
  | succ f =>
    have hi' : i < b.length := by omega
    obtain ⟨o1, o2⟩ := mrg_one h1 h2 hi' hl
    have hadd : impl_AddNote.f k (mrg a b i) ((rN b i).1, (rN b i).2.1, (rN b i).2.2.1, (rN b i).2.2.2.1, (rN b i).2.2.2.2.1, ()) = some (addM (mrg a b i) (rN b i)) := impl_AddNote_f hk _ _ (by omega)
    by_cases hok : ¬ conf a (rN b i) ∧ (mrg a b (i + 1)).length ≤ 60
    · right
      rw [o1 hok] at hadd
      refine ⟨f, _, by omega, ⟨i + 1, rfl, by omega, hok.2, fun j hj => ?_⟩, ?_⟩
      · by_cases e : j = i
        · rw [e]; exact hok.1
        · exact hc j (by omega)
      · simp (disch := omega) only [lett_e, bnd_s, bnd_chk, br_not, br_t, br_f, br_T, br_F, not_true_eq_false, not_false_eq_true, chk_T, chk_F, chk_eq, eqI_dc, ltI_dc, leI_dc, eqN_dc, notB_dc, andB_dc, andB_t, eqB_dc, notB_t, notB_f, inR_dc, upR_dc, ln_e, app_e, tk_e, dp_e, upd_e, repl_e, natI_n, br_pos, br_neg, addI_nat, addI_nn, subI_n1, subI_nn, fitN_T, List.length_set, List.length_append, List.length_cons, List.length_nil, hadd]
    · left
      rw [o2 hok] at hadd
      rw [mrgM_neg (fun z => hok ⟨z.2.1 i hi', Nat.le_trans (mrg_mono a b (i + 1) b.length (by omega)) z.2.2⟩)]
      simp (disch := omega) only [lett_e, bnd_s, bnd_chk, br_not, br_t, br_f, br_T, br_F, not_true_eq_false, not_false_eq_true, chk_T, chk_F, chk_eq, eqI_dc, ltI_dc, leI_dc, eqN_dc, notB_dc, andB_dc, andB_t, eqB_dc, notB_t, notB_f, inR_dc, upR_dc, ln_e, app_e, tk_e, dp_e, upd_e, repl_e, natI_n, br_pos, br_neg, addI_nat, addI_nn, subI_n1, subI_nn, fitN_T, List.length_set, List.length_append, List.length_cons, List.length_nil, hadd]
theorem spec_MergeNotes_f {k : Nat} (hk : K0 ≤ k) (a b : List NoteT) (ha : a.length ≤ 1048576) (hb : b.length ≤ 1048576) : spec_MergeNotes.f k a b = some (mrgM a b) := by
  have e1 := spec_NotesOk_f hk a
  have e2 := spec_NotesOk_f hk b
  unfold spec_MergeNotes.f
  rw [e1, bnd_chk, br_not]
  by_cases h1 : NotesP a
  case neg => rw [br_neg h1, mrgM_neg (fun z => h1 z.1.1)]
  rw [br_pos h1, e2, bnd_chk, br_not]
  by_cases h2 : NotesP b
  case neg => rw [br_neg h2, mrgM_neg (fun z => h2 z.1.2)]
  rw [br_pos h2, fit0 ha, br_t, lett_e, app_e, List.nil_append]
  have hb60 := h2.1
  have ha60 := h1.1
  have hk' := hk
  unfold K0 at hk'
  simp only [lett_e]
  refine loop_msr (P := fun r => r = some (mrgM a b)) (fun f c => ∃ i : Nat, c = (mrg a b i, (i : Int), ()) ∧ i + f = b.length ∧ ∀ j, j < i → ¬ conf a (rN b j)) ?_ (f := b.length) ⟨0, rfl, by omega, fun j hj => by omega⟩ (by omega)
  rintro f c rec ⟨i, rfl, hi, hc⟩
  have hml := (mrg_len a b i).2.1
  cases f with
  | zero =>
    left
    obtain rfl : i = b.length := by omega
    by_cases h60 : (mrg a b b.length).length ≤ 60
    · rw [mrgM_pos ⟨⟨h1, h2⟩, hc, h60⟩]; simp (disch := omega) only [lett_e, bnd_s, bnd_chk, br_not, br_t, br_f, br_T, br_F, not_true_eq_false, not_false_eq_true, chk_T, chk_F, chk_eq, eqI_dc, ltI_dc, leI_dc, eqN_dc, notB_dc, andB_dc, andB_t, eqB_dc, notB_t, notB_f, inR_dc, upR_dc, ln_e, app_e, tk_e, dp_e, upd_e, repl_e, natI_n, br_pos, br_neg, addI_n, fitN_T]
    · rw [mrgM_neg (fun z => h60 z.2.2)]; simp (disch := omega) only [lett_e, bnd_s, bnd_chk, br_not, br_t, br_f, br_T, br_F, not_true_eq_false, not_false_eq_true, chk_T, chk_F, chk_eq, eqI_dc, ltI_dc, leI_dc, eqN_dc, notB_dc, andB_dc, andB_t, eqB_dc, notB_t, notB_f, inR_dc, upR_dc, ln_e, app_e, tk_e, dp_e, upd_e, repl_e, natI_n, br_pos, br_neg, addI_n, fitN_T]
  | succ f =>
    have hi' : i < b.length := by omega
    have hat : spec_l08At.f k a (rdP (0, 0, 0, 0, 0, ()) b i).1 = some (atN (rN b i).1 a, ()) := spec_l08At_f hk a _ ha
    have hwi : spec_l08With.f k (mrg a b i) ((rdP (0, 0, 0, 0, 0, ()) b i).1, (rdP (0, 0, 0, 0, 0, ()) b i).2.1, (rdP (0, 0, 0, 0, 0, ()) b i).2.2.1, (rdP (0, 0, 0, 0, 0, ()) b i).2.2.2.1, (rdP (0, 0, 0, 0, 0, ()) b i).2.2.2.2.1, ()) = some (insN (rN b i) (mrg a b i), ()) := spec_l08With_f hk _ _ (by omega)
    have hm : mrg a b (i + 1) = if (atN (rN b i).1 a).1 = 0 then insN (rN b i) (mrg a b i) else mrg a b i := rfl
    by_cases hz : (atN (rN b i).1 a).1 = 0
    · right
      rw [if_pos hz] at hm
      refine ⟨f, _, by omega, ⟨i + 1, rfl, by omega, fun j hj => ?_⟩, ?_⟩
      · by_cases e : j = i
        · rw [e]; exact fun z => z.1 hz
        · exact hc j (by omega)
      · rw [hm]; simp (disch := omega) only [lett_e, bnd_s, bnd_chk, br_not, br_t, br_f, br_T, br_F, not_true_eq_false, not_false_eq_true, chk_T, chk_F, chk_eq, eqI_dc, ltI_dc, leI_dc, eqN_dc, notB_dc, andB_dc, andB_t, eqB_dc, notB_t, notB_f, inR_dc, upR_dc, ln_e, app_e, tk_e, dp_e, upd_e, repl_e, natI_n, br_pos, br_neg, addI_nat, addI_nn, subI_n1, subI_nn, fitN_T, List.length_set, List.length_append, List.length_cons, List.length_nil, hat, hwi]
    · rw [if_neg hz] at hm
      by_cases he : atN (rN b i).1 a = rN b i
      · right
        have he' := (nt_eq (atN (rN b i).1 a) (rdP (0, 0, 0, 0, 0, ()) b i)).2 he
        refine ⟨f, _, by omega, ⟨i + 1, rfl, by omega, fun j hj => ?_⟩, ?_⟩
        · by_cases e : j = i
          · rw [e]; exact fun z => z.2 he
          · exact hc j (by omega)
        · rw [hm]; simp (disch := omega) only [lett_e, bnd_s, bnd_chk, br_not, br_t, br_f, br_T, br_F, not_true_eq_false, not_false_eq_true, chk_T, chk_F, chk_eq, eqI_dc, ltI_dc, leI_dc, eqN_dc, notB_dc, andB_dc, andB_t, eqB_dc, notB_t, notB_f, inR_dc, upR_dc, ln_e, app_e, tk_e, dp_e, upd_e, repl_e, natI_n, br_pos, br_neg, addI_nat, addI_nn, subI_n1, subI_nn, fitN_T, List.length_set, List.length_append, List.length_cons, List.length_nil, hat, br_pos he']
      · left
        have he' : ¬ _ := fun z => he ((nt_eq (atN (rN b i).1 a) (rdP (0, 0, 0, 0, 0, ()) b i)).1 z)
        rw [mrgM_neg (fun z => z.2.1 i hi' ⟨hz, he⟩)]
        simp (disch := omega) only [lett_e, bnd_s, bnd_chk, br_not, br_t, br_f, br_T, br_F, not_true_eq_false, not_false_eq_true, chk_T, chk_F, chk_eq, eqI_dc, ltI_dc, leI_dc, eqN_dc, notB_dc, andB_dc, andB_t, eqB_dc, notB_t, notB_f, inR_dc, upR_dc, ln_e, app_e, tk_e, dp_e, upd_e, repl_e, natI_n, br_pos, br_neg, addI_nat, addI_nn, subI_n1, subI_nn, fitN_T, List.length_set, List.length_append, List.length_cons, List.length_nil, hat, br_neg he']
/-! ### What is unknown -/
def unkQ (a : List NoteT) (x : NoteT) : Prop := ∃ y, y ∈ a ∧ y.1 = x.1
noncomputable def unkM (a b : List NoteT) : List NoteT := @ite _ (NotesP a ∧ NotesP b) (Classical.propDecidable _) (keep (unkQ a) b) []
theorem at_unk {a : List NoteT} (ha : NotesP a) (x : NoteT) : (atN x.1 a).1 = 0 ↔ ¬ unkQ a x := by
  rcases atN_spec x.1 a with ⟨h1, h2⟩ | ⟨h1, h2⟩
  · have := (ha.2.1 _ h1).1
    exact ⟨fun h => by omega, fun h => absurd ⟨_, h1, h2⟩ h⟩
  · rw [h1]; exact ⟨fun _ ⟨y, hy, e⟩ => h2 y hy e, fun _ => rfl⟩
theorem spec_Unknown_f {k : Nat} (hk : K0 ≤ k) (a b : List NoteT) (ha : a.length ≤ 1048576) (hb : b.length ≤ 1048576) : spec_Unknown.f k a b = some (unkM a b, ()) := by
  have e1 := spec_NotesOk_f hk a
  have e2 := spec_NotesOk_f hk b
  unfold spec_Unknown.f unkM
  rw [e1, bnd_chk, br_not]
  by_cases h1 : NotesP a
  case neg => rw [br_neg h1, if_neg (fun z => h1 z.1)]
  rw [br_pos h1, e2, bnd_chk, br_not]
  by_cases h2 : NotesP b
  case neg => rw [br_neg h2, if_neg (fun z => h2 z.2)]
  rw [br_pos h2, if_pos ⟨h1, h2⟩]
  have hk' := hk
  unfold K0 at hk'
  simp only [lett_e]
  refine loop_rds (P := fun r => r = some (keep (unkQ a) b, ())) (n := b.length) (fun i c => c = (keep (unkQ a) (b.take i), (i : Int), ())) (by simp [keep]) ?_ ?_ (by omega)
  · rintro i c rec hi rfl
    refine ⟨_, rfl, ?_⟩
    have hat : spec_l08At.f k a (rdP (0, 0, 0, 0, 0, ()) b i).1 = some (atN (rN b i).1 a, ()) := spec_l08At_f hk a _ ha
    have hkl := keep_len (unkQ a) (b.take i)
    rw [List.length_take] at hkl
    have hf : fitL (keep (unkQ a) (b.take i)) [((rdP (0, 0, 0, 0, 0, ()) b i).1, (rdP (0, 0, 0, 0, 0, ()) b i).2.1, (rdP (0, 0, 0, 0, 0, ()) b i).2.2.1, (rdP (0, 0, 0, 0, 0, ()) b i).2.2.2.1, (rdP (0, 0, 0, 0, 0, ()) b i).2.2.2.2.1, ())] = true := fit1 _ (by omega)
    obtain ⟨k1, k2⟩ := keep_s (d := (0, 0, 0, 0, 0, ())) (q := unkQ a) hi
    by_cases hq : unkQ a (rN b i)
    · have hz : ¬ (atN (rN b i).1 a).1 = 0 := fun z => (at_unk h1 _).1 z hq
      rw [k1 hq]
      simp (disch := omega) only [lett_e, bnd_s, bnd_chk, br_not, br_t, br_f, br_T, br_F, not_true_eq_false, not_false_eq_true, chk_T, chk_F, chk_eq, eqI_dc, ltI_dc, leI_dc, eqN_dc, notB_dc, andB_dc, andB_t, eqB_dc, notB_t, notB_f, inR_dc, upR_dc, ln_e, app_e, tk_e, dp_e, upd_e, repl_e, natI_n, br_pos, br_neg, addI_nat, addI_nn, subI_n1, subI_nn, fitN_T, List.length_set, List.length_append, List.length_cons, List.length_nil, hat]
    · have hz : (atN (rN b i).1 a).1 = 0 := (at_unk h1 _).2 hq
      rw [k2 hq]
      simp (disch := omega) only [lett_e, bnd_s, bnd_chk, br_not, br_t, br_f, br_T, br_F, not_true_eq_false, not_false_eq_true, chk_T, chk_F, chk_eq, eqI_dc, ltI_dc, leI_dc, eqN_dc, notB_dc, andB_dc, andB_t, eqB_dc, notB_t, notB_f, inR_dc, upR_dc, ln_e, app_e, tk_e, dp_e, upd_e, repl_e, natI_n, br_pos, br_neg, addI_nat, addI_nn, subI_n1, subI_nn, fitN_T, List.length_set, List.length_append, List.length_cons, List.length_nil, hat, hf]
  · rintro c rec rfl
    rw [List.take_length]
    simp (disch := omega) only [lett_e, bnd_s, bnd_chk, br_not, br_t, br_f, br_T, br_F, not_true_eq_false, not_false_eq_true, chk_T, chk_F, chk_eq, eqI_dc, ltI_dc, leI_dc, eqN_dc, notB_dc, andB_dc, andB_t, eqB_dc, notB_t, notB_f, inR_dc, upR_dc, ln_e, app_e, tk_e, dp_e, upd_e, repl_e, natI_n, br_pos, br_neg, addI_n, fitN_T]
theorem impl_Unknown_f {k : Nat} (hk : K0 ≤ k) (a b : List NoteT) (ha : a.length ≤ 1048576) (hb : b.length ≤ 1048576) : impl_Unknown.f k a b = some (unkM a b, ()) := by
  have e1 := impl_NotesOk_f hk a ha
  have e2 := impl_NotesOk_f hk b hb
  unfold impl_Unknown.f unkM
  rw [e1, bnd_chk, br_not]
  by_cases h1 : NotesP a
  case neg => rw [br_neg h1, if_neg (fun z => h1 z.1)]
  rw [br_pos h1, e2, bnd_chk, br_not]
  by_cases h2 : NotesP b
  case neg => rw [br_neg h2, if_neg (fun z => h2 z.2)]
  rw [br_pos h2, if_pos ⟨h1, h2⟩, clone_note_f k hb, bnd_s]
  simp only [lett_e]
  have hat : ∀ x : NoteT, ∃ v : Int, impl_noteAt.f k a x.1 = some (v, ()) ∧ (0 ≤ v ↔ unkQ a x) := fun x => by
    rcases noteAt_d hk a x.1 ha with ⟨i, hi, hs, e⟩ | ⟨hno, e⟩
    · exact ⟨i, e, fun _ => ⟨_, rN_mem hi, hs⟩, fun _ => by omega⟩
    · exact ⟨-1, e, fun h => by omega, fun ⟨y, hy, h⟩ => absurd h (hno y hy)⟩
  refine del_in (d := (0, 0, 0, 0, 0, ())) hk b hb (unkQ a) (fun l => some (l, ())) (F2 := ?F2) ?hF1 ?hE1 ?hF2 ?hE2
  case hF1 =>
    intro i rec hi
    obtain ⟨v, e, hv⟩ := hat (rdP (0, 0, 0, 0, 0, ()) b i)
    simp (disch := omega) only [lett_e, bnd_s, bnd_chk, br_not, br_t, br_f, br_T, br_F, not_true_eq_false, not_false_eq_true, chk_T, chk_F, chk_eq, eqI_dc, ltI_dc, leI_dc, eqN_dc, notB_dc, andB_dc, andB_t, eqB_dc, notB_t, notB_f, inR_dc, upR_dc, ln_e, app_e, tk_e, dp_e, upd_e, repl_e, natI_n, br_pos, br_neg, addI_nat, addI_nn, subI_n1, subI_nn, fitN_T, List.length_set, List.length_append, List.length_cons, List.length_nil, e]
    rw [br_iff hv]
  case hE1 => intro rec; simp (disch := omega) only [lett_e, bnd_s, bnd_chk, br_not, br_t, br_f, br_T, br_F, not_true_eq_false, not_false_eq_true, chk_T, chk_F, chk_eq, eqI_dc, ltI_dc, leI_dc, eqN_dc, notB_dc, andB_dc, andB_t, eqB_dc, notB_t, notB_f, inR_dc, upR_dc, ln_e, app_e, tk_e, dp_e, upd_e, repl_e, natI_n, br_pos, br_neg, addI_nat, addI_nn, subI_n1, subI_nn, fitN_T, List.length_set, List.length_append, List.length_cons, List.length_nil]
  case hF2 =>
    intro c i j rec hc hij hj
    obtain ⟨v, e, hv⟩ := hat (rdP (0, 0, 0, 0, 0, ()) c j)
    simp (disch := omega) only [lett_e, bnd_s, bnd_chk, br_not, br_t, br_f, br_T, br_F, not_true_eq_false, not_false_eq_true, chk_T, chk_F, chk_eq, eqI_dc, ltI_dc, leI_dc, eqN_dc, notB_dc, andB_dc, andB_t, eqB_dc, notB_t, notB_f, inR_dc, upR_dc, ln_e, app_e, tk_e, dp_e, upd_e, repl_e, natI_n, br_pos, br_neg, addI_nat, addI_nn, subI_n1, subI_nn, fitN_T, List.length_set, List.length_append, List.length_cons, List.length_nil, e]
    by_cases hq : unkQ a (rdP (0, 0, 0, 0, 0, ()) c j)
    · rw [br_pos hq, br_neg (fun z => z (hv.2 hq))]
    · rw [br_neg hq, br_pos (fun z => hq (hv.1 z))]
  case hE2 =>
    intro c i rec hc hi
    have hl : (c.take i ++ List.replicate (c.drop i).length ((0, 0, 0, 0, 0, ()) : NoteT)).take i = c.take i := by
      have : (c.take i).length = i := by simp; omega
      rw [List.take_append_of_le_length (by omega), List.take_take, Nat.min_self]
    have hn : (c.take i ++ List.replicate (c.drop i).length ((0, 0, 0, 0, 0, ()) : NoteT)).length = c.length := by simp; omega
    simp (disch := omega) only [lett_e, bnd_s, bnd_chk, br_not, br_t, br_f, br_T, br_F, not_true_eq_false, not_false_eq_true, chk_T, chk_F, chk_eq, eqI_dc, ltI_dc, leI_dc, eqN_dc, notB_dc, andB_dc, andB_t, eqB_dc, notB_t, notB_f, inR_dc, upR_dc, ln_e, app_e, tk_e, dp_e, upd_e, repl_e, natI_n, br_pos, br_neg, addI_n, fitN_T, hl, hn]
    rw [br_pos ⟨by omega, by simp; omega⟩]
theorem sameNotes_f {k : Nat} (hk : K0 ≤ k) (a : List NoteT) (ha : a.length ≤ 1048576) : laws_sameNotes.f k a a = chkP True := by
  unfold laws_sameNotes.f
  simp (disch := omega) only [lett_e, bnd_s, bnd_chk, br_not, br_t, br_f, br_T, br_F, not_true_eq_false, not_false_eq_true, chk_T, chk_F, chk_eq, eqI_dc, ltI_dc, leI_dc, eqN_dc, notB_dc, andB_dc, andB_t, eqB_dc, notB_t, notB_f, inR_dc, upR_dc, ln_e, app_e, tk_e, dp_e, upd_e, repl_e, natI_n, br_pos, br_neg, addI_n, fitN_T]
  unfold K0 at hk
  refine loop_run (n := a.length) (fun i => ((i : Int), ())) (by simp) (fun i hi rec => ?_) (fun rec => by simp (disch := omega) only [lett_e, bnd_s, bnd_chk, br_not, br_t, br_f, br_T, br_F, not_true_eq_false, not_false_eq_true, chk_T, chk_F, chk_eq, eqI_dc, ltI_dc, leI_dc, eqN_dc, notB_dc, andB_dc, andB_t, eqB_dc, notB_t, notB_f, inR_dc, upR_dc, ln_e, app_e, tk_e, dp_e, upd_e, repl_e, natI_n, br_pos, br_neg, addI_n, fitN_T]) (by omega)
  simp (disch := omega) only [lett_e, bnd_s, bnd_chk, br_not, br_t, br_f, br_T, br_F, not_true_eq_false, not_false_eq_true, chk_T, chk_F, chk_eq, eqI_dc, ltI_dc, leI_dc, eqN_dc, notB_dc, andB_dc, andB_t, eqB_dc, notB_t, notB_f, inR_dc, upR_dc, ln_e, app_e, tk_e, dp_e, upd_e, repl_e, natI_n, br_pos, br_neg, addI_n, fitN_T, and_self, iff_self]
  rfl
theorem impl_Gaps_f {k : Nat} (hk : K0 ≤ k) (l : List NoteT) (hl : l.length ≤ 1048576) : impl_Gaps.f k l = some (@ite _ (NotesP l) (Classical.propDecidable _) (if l.length = 0 then 0 else (rdP (0, 0, 0, 0, 0, ()) l (l.length - 1)).1 - l.length) (-1), ()) := by
  have h1 := impl_NotesOk_f hk l hl
  unfold impl_Gaps.f
  rw [h1, bnd_chk, br_not]
  by_cases hP : NotesP l
  case neg => rw [br_neg hP, if_neg hP]
  rw [br_pos hP, if_pos hP]
  have hlen := hP.1
  by_cases h0 : l.length = 0
  · rw [if_pos h0]; simp (disch := omega) only [lett_e, bnd_s, bnd_chk, br_not, br_t, br_f, br_T, br_F, not_true_eq_false, not_false_eq_true, chk_T, chk_F, chk_eq, eqI_dc, ltI_dc, leI_dc, eqN_dc, notB_dc, andB_dc, andB_t, eqB_dc, notB_t, notB_f, inR_dc, upR_dc, ln_e, app_e, tk_e, dp_e, upd_e, repl_e, natI_n, br_pos, br_neg, addI_n, fitN_T]
  · rw [if_neg h0]
    have hb := hP.2.1 _ (by rw [rd_lt (show l.length - 1 < l.length by omega)]; exact List.getElem_mem _ : rdP (0, 0, 0, 0, 0, ()) l (l.length - 1) ∈ l)
    have hb1 := hb.1
    simp (disch := omega) only [lett_e, bnd_s, bnd_chk, br_not, br_t, br_f, br_T, br_F, not_true_eq_false, not_false_eq_true, chk_T, chk_F, chk_eq, eqI_dc, ltI_dc, leI_dc, eqN_dc, notB_dc, andB_dc, andB_t, eqB_dc, notB_t, notB_f, inR_dc, upR_dc, ln_e, app_e, tk_e, dp_e, upd_e, repl_e, natI_n, br_pos, br_neg, addI_nat, addI_nn, subI_n1, subI_nn, fitN_T, List.length_set, List.length_append, List.length_cons, List.length_nil]
    rw [subI_id (by omega)]
end Go.Proofs.Ytcfbjloblbhdhaa.Eng

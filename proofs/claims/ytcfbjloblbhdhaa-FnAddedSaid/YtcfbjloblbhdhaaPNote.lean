/- Notes: what the reference's functions compute, and that lists of notes stay right. No condition. -/
import Derived.Test.YtcfbjloblbhdhaaPBelt
import Derived.Test.YtcfbjloblbhdhaaDFnAdded
namespace Go.Proofs.Ytcfbjloblbhdhaa.Eng
set_option linter.unusedVariables false
set_option linter.unusedSimpArgs false
def nt0 : NoteT := (0, 0, 0, 0, 0, ())
/-- the note of a number -/
def atN (s : Int) : List NoteT → NoteT
  | [] => nt0
  | x :: xs => if x.1 = s then x else atN s xs
theorem atN_app (s : Int) : ∀ (a b : List NoteT), (∀ x ∈ a, x.1 ≠ s) → atN s (a ++ b) = atN s b
  | [], _, _ => rfl
  | x :: xs, b, h => by
    rw [List.cons_append, atN, if_neg (h x (by simp))]
    exact atN_app s xs b (fun y hy => h y (by simp [hy]))
theorem atN_spec (s : Int) : ∀ (l : List NoteT), (atN s l ∈ l ∧ (atN s l).1 = s) ∨ (atN s l = nt0 ∧ ∀ x ∈ l, x.1 ≠ s)
  | [] => .inr ⟨rfl, fun _ h => by cases h⟩
  | x :: xs => by
    rw [atN]
    by_cases h : x.1 = s
    · rw [if_pos h]; exact .inl ⟨by simp, h⟩
    · rw [if_neg h]
      rcases atN_spec s xs with ⟨h1, h2⟩ | ⟨h1, h2⟩
      · exact .inl ⟨by simp [h1], h2⟩
      · exact .inr ⟨h1, fun y hy => by rcases List.mem_cons.1 hy with e | e; · subst e; exact h
                                       · exact h2 y e⟩
theorem spec_l08At_d {k : Nat} (hk : K0 ≤ k) (l : List NoteT) (s : Int) (hl : l.length ≤ 1048576) :
    (∃ i, i < l.length ∧ (rdP (0, 0, 0, 0, 0, ()) l i).1 = s ∧ (∀ j, j < i → ¬ (rdP (0, 0, 0, 0, 0, ()) l j).1 = s) ∧ spec_l08At.f k l s = some (rdP (0, 0, 0, 0, 0, ()) l i, ())) ∨ ((∀ j, j < l.length → ¬ (rdP (0, 0, 0, 0, 0, ()) l j).1 = s) ∧ spec_l08At.f k l s = some (nt0, ())) := by
  unfold K0 at hk
  unfold spec_l08At.f
  refine loop_find (n := l.length) (e := some (nt0, ())) (fun i => ((i : Int), ())) (fun i => (rdP (0, 0, 0, 0, 0, ()) l i).1 = s) (fun i => some (rdP (0, 0, 0, 0, 0, ()) l i, ())) ?h0 ?hk ?hs ?he
  case h0 => simp
  case hk => omega
  case hs => intro i hi _ rec; simp (disch := omega) only [lett_e, bnd_s, bnd_chk, br_not, br_t, br_f, br_T, br_F, not_true_eq_false, not_false_eq_true, chk_T, chk_F, chk_eq, eqI_dc, ltI_dc, leI_dc, eqN_dc, notB_dc, andB_dc, andB_t, eqB_dc, notB_t, notB_f, inR_dc, upR_dc, ln_e, app_e, tk_e, dp_e, upd_e, repl_e, natI_n, br_pos, br_neg, addI_n, fitN_T]; rfl
  case he => intro _ rec; simp (disch := omega) only [lett_e, bnd_s, bnd_chk, br_not, br_t, br_f, br_T, br_F, not_true_eq_false, not_false_eq_true, chk_T, chk_F, chk_eq, eqI_dc, ltI_dc, leI_dc, eqN_dc, notB_dc, andB_dc, andB_t, eqB_dc, notB_t, notB_f, inR_dc, upR_dc, ln_e, app_e, tk_e, dp_e, upd_e, repl_e, natI_n, br_pos, br_neg, addI_n, fitN_T]; rfl
theorem spec_l08At_f {k : Nat} (hk : K0 ≤ k) (l : List NoteT) (s : Int) (hl : l.length ≤ 1048576) : spec_l08At.f k l s = some (atN s l, ()) := by
  rcases spec_l08At_d hk l s hl with ⟨i, hi, h1, h2, e⟩ | ⟨h2, e⟩
  · rw [e, ← List.take_append_drop i l, atN_app s _ _ ?_, drop_s (d := (0, 0, 0, 0, 0, ())) hi, atN, if_pos h1, ← drop_s (d := (0, 0, 0, 0, 0, ())) hi, List.take_append_drop]
    intro x hx
    obtain ⟨j, hj, ex⟩ := List.getElem_of_mem hx
    rw [List.length_take] at hj
    have := h2 j (by omega)
    rw [rd_lt (by omega)] at this
    rw [List.getElem_take] at ex
    rwa [ex] at this
  · rw [e]
    rcases atN_spec s l with ⟨h3, h4⟩ | ⟨h3, _⟩
    · obtain ⟨j, hj, ex⟩ := List.getElem_of_mem h3
      exact absurd h4 (by rw [← ex, ← rd_lt (d := (0, 0, 0, 0, 0, ())) hj]; exact h2 j hj)
    · rw [h3]
/-- a note put in its place -/
def insN (n : NoteT) : List NoteT → List NoteT
  | [] => [n]
  | x :: xs => if n.1 < x.1 then n :: x :: xs else x :: insN n xs
theorem insN_hit (n : NoteT) : ∀ (a b : List NoteT), (∃ x, x ∈ a ∧ n.1 < x.1) → insN n (a ++ b) = insN n a ++ b
  | [], _, h => by obtain ⟨x, h, _⟩ := h; cases h
  | x :: xs, b, h => by
    rw [List.cons_append, insN, insN]
    by_cases hx : n.1 < x.1
    · rw [if_pos hx, if_pos hx]; rfl
    · rw [if_neg hx, if_neg hx, List.cons_append]
      congr 1
      refine insN_hit n xs b ?_
      obtain ⟨y, hy, h2⟩ := h
      rcases List.mem_cons.1 hy with e | e
      · subst e; exact absurd h2 hx
      · exact ⟨y, e, h2⟩
theorem insN_miss (n : NoteT) : ∀ (a b : List NoteT), (∀ x ∈ a, ¬ n.1 < x.1) → insN n (a ++ b) = a ++ insN n b
  | [], _, _ => rfl
  | x :: xs, b, h => by
    rw [List.cons_append, insN, if_neg (h x (by simp)), List.cons_append, insN_miss n xs b (fun y hy => h y (by simp [hy]))]
theorem insN_len (n : NoteT) : ∀ (l : List NoteT), (insN n l).length = l.length + 1
  | [] => rfl
  | x :: xs => by rw [insN]; split <;> simp [insN_len n xs]
theorem mem_insN (n : NoteT) {y : NoteT} : ∀ (l : List NoteT), y ∈ insN n l ↔ y = n ∨ y ∈ l
  | [] => by simp [insN]
  | x :: xs => by
    rw [insN]
    split
    · simp
    · rw [List.mem_cons, mem_insN n xs, List.mem_cons]
      constructor
      · rintro (h | h | h)
        · exact .inr (.inl h)
        · exact .inl h
        · exact .inr (.inr h)
      · rintro (h | h | h)
        · exact .inr (.inl h)
        · exact .inl h
        · exact .inr (.inr h)
noncomputable def withS (l : List NoteT) (n : NoteT) (i : Nat) : List NoteT × Bool × Int × Unit := @ite _ (∃ x, x ∈ l.take i ∧ n.1 < x.1) (Classical.propDecidable _) (insN n (l.take i), true, (i : Int), ()) (l.take i, false, (i : Int), ())
theorem spec_l08With_f {k : Nat} (hk : K0 ≤ k) (l : List NoteT) (n : NoteT) (hl : l.length ≤ 1048576) : spec_l08With.f k l n = some (insN n l, ()) := by
  unfold K0 at hk
  unfold spec_l08With.f
  refine loop_run (n := l.length) (withS l n) ?_ (fun i hi rec => ?_) (fun rec => ?_) (by omega)
  · rw [withS, if_neg (by simp)]; simp
  · have ht := take_s (d := (0, 0, 0, 0, 0, ())) hi
    have hlt : (l.take i).length ≤ 1048576 := by rw [List.length_take]; omega
    by_cases h : ∃ x, x ∈ l.take i ∧ n.1 < x.1
    · have h' : ∃ x, x ∈ l.take (i + 1) ∧ n.1 < x.1 := by obtain ⟨x, h1, h2⟩ := h; exact ⟨x, by rw [ht]; simp [h1], h2⟩
      rw [withS, if_pos h, withS, if_pos h', ht, insN_hit n _ _ h]
      have f1 := fit1 (rdP (0, 0, 0, 0, 0, ()) l i) (l := insN n (l.take i)) (by rw [insN_len, List.length_take]; omega)
      simp (disch := omega) only [lett_e, bnd_s, bnd_chk, br_not, br_t, br_f, br_T, br_F, not_true_eq_false, not_false_eq_true, chk_T, chk_F, chk_eq, eqI_dc, ltI_dc, leI_dc, eqN_dc, notB_dc, andB_dc, andB_t, eqB_dc, notB_t, notB_f, inR_dc, upR_dc, ln_e, app_e, tk_e, dp_e, upd_e, repl_e, natI_n, br_pos, br_neg, addI_n, fitN_T, f1, not_true_eq_false]
      rfl
    · by_cases h2 : n.1 < (rdP (0, 0, 0, 0, 0, ()) l i).1
      · have h' : ∃ x, x ∈ l.take (i + 1) ∧ n.1 < x.1 := ⟨_, by rw [ht]; simp, h2⟩
        rw [withS, if_neg h, withS, if_pos h', ht, insN_miss n _ _ (fun x hx hn => h ⟨x, hx, hn⟩)]
        have f1 := fit1 n hlt
        have f2 := fit1 (rdP (0, 0, 0, 0, 0, ()) l i) (l := l.take i ++ [n]) (by rw [List.length_append, List.length_take]; simp; omega)
        simp (disch := omega) only [lett_e, bnd_s, bnd_chk, br_not, br_t, br_f, br_T, br_F, not_true_eq_false, not_false_eq_true, chk_T, chk_F, chk_eq, eqI_dc, ltI_dc, leI_dc, eqN_dc, notB_dc, andB_dc, andB_t, eqB_dc, notB_t, notB_f, inR_dc, upR_dc, ln_e, app_e, tk_e, dp_e, upd_e, repl_e, natI_n, br_pos, br_neg, addI_n, fitN_T, f1, f2]
        rw [insN, if_pos h2, List.append_assoc]
        rfl
      · have h' : ¬ ∃ x, x ∈ l.take (i + 1) ∧ n.1 < x.1 := by
          rintro ⟨x, h3, h4⟩
          rw [ht] at h3
          rcases List.mem_append.1 h3 with h3 | h3
          · exact h ⟨x, h3, h4⟩
          · rw [List.mem_singleton.1 h3] at h4; exact h2 h4
        rw [withS, if_neg h, withS, if_neg h', ht]
        have f2 := fit1 (rdP (0, 0, 0, 0, 0, ()) l i) hlt
        simp (disch := omega) only [lett_e, bnd_s, bnd_chk, br_not, br_t, br_f, br_T, br_F, not_true_eq_false, not_false_eq_true, chk_T, chk_F, chk_eq, eqI_dc, ltI_dc, leI_dc, eqN_dc, notB_dc, andB_dc, andB_t, eqB_dc, notB_t, notB_f, inR_dc, upR_dc, ln_e, app_e, tk_e, dp_e, upd_e, repl_e, natI_n, br_pos, br_neg, addI_n, fitN_T, f2]
        rfl
  · by_cases h : ∃ x, x ∈ l.take l.length ∧ n.1 < x.1
    · rw [withS, if_pos h, List.take_length]
      simp (disch := omega) only [lett_e, bnd_s, bnd_chk, br_not, br_t, br_f, br_T, br_F, not_true_eq_false, not_false_eq_true, chk_T, chk_F, chk_eq, eqI_dc, ltI_dc, leI_dc, eqN_dc, notB_dc, andB_dc, andB_t, eqB_dc, notB_t, notB_f, inR_dc, upR_dc, ln_e, app_e, tk_e, dp_e, upd_e, repl_e, natI_n, br_pos, br_neg, addI_n, fitN_T]
    · rw [withS, if_neg h]
      rw [List.take_length] at h
      have e : insN n l = l ++ [n] := by
        have := insN_miss n l [] (fun x hx hn => h ⟨x, hx, hn⟩)
        rw [List.append_nil] at this; exact this
      rw [List.take_length, e]
      have f1 := fit1 n hl
      simp (disch := omega) only [lett_e, bnd_s, bnd_chk, br_not, br_t, br_f, br_T, br_F, not_true_eq_false, not_false_eq_true, chk_T, chk_F, chk_eq, eqI_dc, ltI_dc, leI_dc, eqN_dc, notB_dc, andB_dc, andB_t, eqB_dc, notB_t, notB_f, inR_dc, upR_dc, ln_e, app_e, tk_e, dp_e, upd_e, repl_e, natI_n, br_pos, br_neg, addI_n, fitN_T, f1]
def Asc (l : List NoteT) : Prop := ∀ i, 0 < i → i < l.length → (rdP (0, 0, 0, 0, 0, ()) l (i - 1)).1 < (rdP (0, 0, 0, 0, 0, ()) l i).1
theorem asc_iff (l : List NoteT) : Asc l ↔ l.Pairwise (fun a b => a.1 < b.1) := by
  rw [List.pairwise_iff_getElem]
  constructor
  · intro h
    have key : ∀ n i j (hi : i < l.length) (hj : j < l.length), i + n + 1 = j → l[i].1 < l[j].1 := by
      intro n
      induction n with
      | zero =>
        intro i j hi hj e
        have := h j (by omega) hj
        rw [rd_lt hj, rd_lt (show j - 1 < l.length by omega)] at this
        simpa [show j - 1 = i by omega] using this
      | succ n ih =>
        intro i j hi hj e
        have h1 := ih i (j - 1) hi (by omega) (by omega)
        have := h j (by omega) hj
        rw [rd_lt hj, rd_lt (show j - 1 < l.length by omega)] at this
        exact Int.lt_trans h1 this
    intro i j hi hj hij
    exact key (j - i - 1) i j hi hj (by omega)
  · intro h i h0 hi
    rw [rd_lt hi, rd_lt (show i - 1 < l.length by omega)]
    exact h (i - 1) i (by omega) hi (by omega)
theorem insN_pw (n : NoteT) : ∀ (l : List NoteT), l.Pairwise (fun a b => a.1 < b.1) → (∀ x ∈ l, x.1 ≠ n.1) → (insN n l).Pairwise (fun a b => a.1 < b.1)
  | [], _, _ => by simp [insN]
  | x :: xs, h, hn => by
    obtain ⟨h1, h2⟩ := List.pairwise_cons.1 h
    rw [insN]
    split
    · rename_i hx
      refine List.pairwise_cons.2 ⟨fun y hy => ?_, h⟩
      rcases List.mem_cons.1 hy with e | e
      · subst e; exact hx
      · exact Int.lt_trans hx (h1 y e)
    · rename_i hx
      refine List.pairwise_cons.2 ⟨fun y hy => ?_, insN_pw n xs h2 (fun y hy => hn y (by simp [hy]))⟩
      rcases (mem_insN n xs).1 hy with e | e
      · subst e; have := hn x (by simp); omega
      · exact h1 y e
theorem nt_eq (x n : NoteT) : (x.1 = n.1 ∧ x.2.1 = n.2.1 ∧ x.2.2.1 = n.2.2.1 ∧ x.2.2.2.1 = n.2.2.2.1 ∧ x.2.2.2.2.1 = n.2.2.2.2.1) ↔ x = n := by
  obtain ⟨a, b, c, d, e, _⟩ := x
  obtain ⟨a', b', c', d', e', _⟩ := n
  simp
noncomputable def addM (l : List NoteT) (n : NoteT) : List NoteT × Bool × Unit :=
  @ite _ (NotesP l ∧ NoteP n) (Classical.propDecidable _) (if atN n.1 l = n then (l, true, ()) else if (atN n.1 l).1 ≠ 0 ∨ 60 ≤ l.length then (l, false, ()) else (insN n l, true, ())) (l, false, ())
theorem spec_AddNote_f {k : Nat} (hk : K0 ≤ k) (l : List NoteT) (n : NoteT) (hl : l.length ≤ 1048576) : spec_AddNote.f k l n = some (addM l n) := by
  have h1 := spec_NotesOk_f hk l
  have h2 := spec_NoteOk_f k n
  have h3 := spec_l08At_f hk l n.1 hl
  have h4 := spec_l08With_f hk l n hl
  unfold spec_AddNote.f addM
  rw [fit0 hl, br_t, lett_e, app_e, List.nil_append, h1, bnd_chk, br_not]
  by_cases hP : NotesP l
  case neg => rw [br_neg hP, if_neg (fun z => hP z.1)]
  rw [br_pos hP]
  have h2' : spec_NoteOk.f k (n.1, n.2.1, n.2.2.1, n.2.2.2.1, n.2.2.2.2.1, ()) = chkP (NoteP n) := h2
  rw [h2', bnd_chk, br_not]
  by_cases hN : NoteP n
  case neg => rw [br_neg hN, if_neg (fun z => hN z.2)]
  rw [br_pos hN, if_pos ⟨hP, hN⟩, h3, bnd_s]
  simp only [eqI_dc, andB_t, andB_dc, nt_eq]
  by_cases h5 : atN n.1 l = n
  case pos => rw [br_pos h5, if_pos h5]
  rw [br_neg h5, if_neg h5]
  by_cases h6 : (atN n.1 l).1 = 0
  case neg => simp (disch := omega) only [lett_e, bnd_s, bnd_chk, br_not, br_t, br_f, br_T, br_F, not_true_eq_false, not_false_eq_true, chk_T, chk_F, chk_eq, eqI_dc, ltI_dc, leI_dc, eqN_dc, notB_dc, andB_dc, andB_t, eqB_dc, notB_t, notB_f, inR_dc, upR_dc, ln_e, app_e, tk_e, dp_e, upd_e, repl_e, natI_n, br_pos, br_neg, addI_n, fitN_T]; rw [if_pos (.inl h6)]
  by_cases h7 : 60 ≤ l.length
  case pos => simp (disch := omega) only [lett_e, bnd_s, bnd_chk, br_not, br_t, br_f, br_T, br_F, not_true_eq_false, not_false_eq_true, chk_T, chk_F, chk_eq, eqI_dc, ltI_dc, leI_dc, eqN_dc, notB_dc, andB_dc, andB_t, eqB_dc, notB_t, notB_f, inR_dc, upR_dc, ln_e, app_e, tk_e, dp_e, upd_e, repl_e, natI_n, br_pos, br_neg, addI_n, fitN_T]; rw [if_pos (.inr h7)]
  rw [if_neg (fun z => z.elim (fun z => z h6) h7)]
  have h4' : spec_l08With.f k l (n.1, n.2.1, n.2.2.1, n.2.2.2.1, n.2.2.2.2.1, ()) = some (insN n l, ()) := h4
  simp (disch := omega) only [lett_e, bnd_s, bnd_chk, br_not, br_t, br_f, br_T, br_F, not_true_eq_false, not_false_eq_true, chk_T, chk_F, chk_eq, eqI_dc, ltI_dc, leI_dc, eqN_dc, notB_dc, andB_dc, andB_t, eqB_dc, notB_t, notB_f, inR_dc, upR_dc, ln_e, app_e, tk_e, dp_e, upd_e, repl_e, natI_n, br_pos, br_neg, addI_n, fitN_T, h4']
theorem insN_ok {l : List NoteT} {n : NoteT} (h : NotesP l) (hn : NoteP n) (h1 : (atN n.1 l).1 = 0) (h2 : l.length < 60) : NotesP (insN n l) := by
  obtain ⟨a, b, c⟩ := h
  refine ⟨by rw [insN_len]; omega, fun y hy => ?_, ?_⟩
  · rcases (mem_insN n l).1 hy with e | e
    · subst e; exact hn
    · exact b y e
  · refine (asc_iff _).2 (insN_pw n l ((asc_iff _).1 c) ?_)
    rcases atN_spec n.1 l with ⟨h3, h4⟩ | ⟨_, h3⟩
    · have := hn.1.1; omega
    · exact h3
theorem addM_ok {l : List NoteT} {n : NoteT} (h : NotesP l) : NotesP (addM l n).1 := by
  unfold addM
  split
  case isFalse => exact h
  case isTrue hh =>
    split
    · exact h
    · split
      · exact h
      · rename_i h2
        exact insN_ok h hh.2 (by omega) (by omega)
theorem spec_Gaps_f {k : Nat} (hk : K0 ≤ k) (l : List NoteT) : spec_Gaps.f k l = some (@ite _ (NotesP l) (Classical.propDecidable _) (if l.length = 0 then 0 else (rdP (0, 0, 0, 0, 0, ()) l (l.length - 1)).1 - l.length) (-1), ()) := by
  have h1 := spec_NotesOk_f hk l
  unfold spec_Gaps.f
  rw [h1, bnd_chk, br_not]
  by_cases hP : NotesP l
  case neg => rw [br_neg hP, if_neg hP]
  rw [br_pos hP, if_pos hP]
  have hlen := hP.1
  by_cases h0 : l.length = 0
  · rw [if_pos h0]; simp (disch := omega) only [lett_e, bnd_s, bnd_chk, br_not, br_t, br_f, br_T, br_F, not_true_eq_false, not_false_eq_true, chk_T, chk_F, chk_eq, eqI_dc, ltI_dc, leI_dc, eqN_dc, notB_dc, andB_dc, andB_t, eqB_dc, notB_t, notB_f, inR_dc, upR_dc, ln_e, app_e, tk_e, dp_e, upd_e, repl_e, natI_n, br_pos, br_neg, addI_n, fitN_T]
  · rw [if_neg h0]
    have hb := hP.2.1 _ (by rw [rd_lt (show l.length - 1 < l.length by omega)]; exact List.getElem_mem _ : rdP (0, 0, 0, 0, 0, ()) l (l.length - 1) ∈ l)
    have hb' := hb.1
    have hn : natI ((l.length : Int) - 1) = l.length - 1 := by unfold natI; omega
    simp (disch := omega) only [lett_e, bnd_s, bnd_chk, br_not, br_t, br_f, br_T, br_F, not_true_eq_false, not_false_eq_true, chk_T, chk_F, chk_eq, eqI_dc, ltI_dc, leI_dc, eqN_dc, notB_dc, andB_dc, andB_t, eqB_dc, notB_t, notB_f, inR_dc, upR_dc, ln_e, app_e, tk_e, dp_e, upd_e, repl_e, natI_n, br_pos, br_neg, addI_n, fitN_T, subI_id, hn]
end Go.Proofs.Ytcfbjloblbhdhaa.Eng

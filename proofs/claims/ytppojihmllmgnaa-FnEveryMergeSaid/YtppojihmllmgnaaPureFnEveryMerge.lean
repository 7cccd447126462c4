/- Merging is commutative and associative, with the same refusals, and idempotent: the pure statement. No condition. -/
import Derived.Test.YtppojihmllmgnaaStFnEveryMerge
import Derived.Test.YtppojihmllmgnaaNoteUnion
import Derived.Test.YtppojihmllmgnaaF39
namespace Go.Proofs.Ytppojihmllmgnaa.Pure
open Go.RowKit Go.Proofs.YtppojihmllmgnaaW.PrintWords Go.Proofs.Ytppojihmllmgnaa.Opn Go.Proofs.Ytppojihmllmgnaa.F
set_option linter.unusedVariables false
theorem sub_len : ∀ (l2 l1 : List Nt), Asc l1 → Asc l2 → (∀ x ∈ l1, x ∈ l2) → l1.length ≤ l2.length
  | [], [], _, _, _ => Nat.le_refl _
  | [], a :: s, _, _, h => absurd (h a List.mem_cons_self) (by simp)
  | b :: t, [], _, _, _ => Nat.zero_le _
  | b :: t, a :: s, h1, h2, h => by
    have h1' := List.pairwise_cons.1 h1
    have h2' := List.pairwise_cons.1 h2
    rcases List.mem_cons.1 (h a List.mem_cons_self) with e | e
    · have := sub_len t s h1'.2 h2'.2 (fun x hx => by
        rcases List.mem_cons.1 (h x (List.mem_cons_of_mem _ hx)) with e2 | e2
        · have := h1'.1 x hx
          rw [e, e2] at this
          omega
        · exact e2)
      simp only [List.length_cons]
      omega
    · have hb := h2'.1 a e
      have := sub_len t (a :: s) h1 h2'.2 (fun x hx => by
        rcases List.mem_cons.1 (h x hx) with e2 | e2
        · rcases List.mem_cons.1 hx with e3 | e3
          · rw [← e2, ← e3] at hb; omega
          · have := h1'.1 x e3
            rw [e2] at this
            omega
        · exact e2)
      simp only [List.length_cons] at this ⊢
      omega
def U (a b : List Nt) : List Nt := mrg a b b.length
def good (a b : List Nt) : Prop := notesOk a = true ∧ notesOk b = true ∧ agree a b ∧ (U a b).length ≤ 60
theorem mrgN_good {a b : List Nt} (h : good a b) : mrgN a b = (U a b, true) := by
  unfold mrgN
  rw [if_pos ⟨⟨h.1, h.2.1⟩, (agree_conf h.1).1 h.2.2.1, h.2.2.2⟩]
  rfl
theorem mrgN_bad {a b : List Nt} (h : ¬ good a b) : mrgN a b = ([], false) := by
  unfold mrgN
  rw [if_neg (fun h' => h ⟨h'.1.1, h'.1.2, (agree_conf h'.1.1).2 h'.2.1, h'.2.2⟩)]
theorem mem_U {a b : List Nt} (h : good a b) (x : Nt) : x ∈ U a b ↔ x ∈ a ∨ x ∈ b := mem_mrg h.1 h.2.1 h.2.2.1 x
theorem U_ok {a b : List Nt} (h : good a b) : notesOk (U a b) = true :=
  notesOk_of h.2.2.2 (mrg_inv h.1 h.2.1 b.length (Nat.le_refl _)).2.1 (mrg_asc h.1 h.2.1)
theorem good_comm {a b : List Nt} (h : good a b) : good b a := ⟨h.2.1, h.1, agree_comm h.2.2.1, by have := h.2.2.2; unfold U at this ⊢; rwa [mrg_comm h.2.1 h.1 (agree_comm h.2.2.1)]⟩
theorem U_comm {a b : List Nt} (h : good a b) : U a b = U b a := mrg_comm h.1 h.2.1 h.2.2.1
theorem assoc {a b c : List Nt} (h1 : good a b) (h2 : good (U a b) c) : good b c ∧ good a (U b c) ∧ U (U a b) c = U a (U b c) := by
  have hbc : agree b c := fun x hx y hy e => h2.2.2.1 x ((mem_U h1 x).2 (.inr hx)) y hy e
  have hg : good b c := by
    refine ⟨h1.2.1, h2.2.1, hbc, Nat.le_trans (sub_len _ _ (mrg_asc h1.2.1 h2.2.1) (mrg_asc h2.1 h2.2.1) (fun x hx => ?_)) h2.2.2.2⟩
    rcases (mem_mrg h1.2.1 h2.2.1 hbc x).1 hx with h | h
    · exact (mem_U h2 x).2 (.inl ((mem_U h1 x).2 (.inr h)))
    · exact (mem_U h2 x).2 (.inr h)
  have haz : agree a (U b c) := fun x hx y hy e => by
    rcases (mem_U hg y).1 hy with h | h
    · exact h1.2.2.1 x hx y h e
    · exact h2.2.2.1 x ((mem_U h1 x).2 (.inl hx)) y h e
  have heq : U (U a b) c = U a (U b c) := asc_extN _ _ (mrg_asc h2.1 h2.2.1) (mrg_asc h1.1 (U_ok hg)) (fun x => by
    rw [mem_U h2, mem_U h1, show (x ∈ U a (U b c) ↔ x ∈ a ∨ x ∈ U b c) from mem_mrg h1.1 (U_ok hg) haz x, mem_U hg, or_assoc])
  exact ⟨hg, ⟨h1.1, U_ok hg, haz, by rw [← heq]; exact h2.2.2.2⟩, heq⟩
theorem assoc' {a b c : List Nt} (h1 : good b c) (h2 : good a (U b c)) : good a b ∧ good (U a b) c := by
  have h3 : good (U c b) a := by rw [← U_comm h1]; exact good_comm h2
  obtain ⟨g1, g2, _⟩ := assoc (good_comm h1) h3
  refine ⟨good_comm g1, ?_⟩
  rw [← U_comm g1]
  exact good_comm g2
theorem good_self {a : List Nt} (h : notesOk a = true) : good a a ∧ U a a = a := by
  have hag : agree a a := fun x hx y hy e => asc_uniq (notesOk_asc h) hx hy e
  have he : U a a = a := asc_extN _ _ (mrg_asc h h) (notesOk_asc h) (fun x => by
    rw [show (x ∈ U a a ↔ x ∈ a ∨ x ∈ a) from mem_mrg h h hag x, or_self])
  exact ⟨⟨h, h, hag, by rw [he]; exact notesOk_len h⟩, he⟩
def unk' (a b : List Nt) : List Nt := if notesOk a = true ∧ notesOk b = true then b.filter (fun x => !(a.any (fun y => y.f0 == x.f0))) else []
theorem ev_Unk (a b : List Nt) (ha : a.length ≤ maxLen) (hb : b.length ≤ maxLen) : Ev (fun k => impl_Unknown.f k a b) (unk' a b) := by
  unfold impl_Unknown.f unk'
  refine Ev.bd (ev_impl_NotesOk a ha) (Ev.ite (fun h1 => Ev.bd (ev_impl_NotesOk b hb) (Ev.step (fun k => impl_Unknown.j0.eq_2 ..) (Ev.ite (fun h2 => ?_) (fun h2 => ?_)))) (fun h1 => Ev.step (fun k => impl_Unknown.j0.eq_2 ..) (Ev.pos rfl ?_)))
  · rw [if_neg (fun h => by rw [h.2] at h2; simp at h2)]
    exact Ev.now _
  · have h2 : notesOk b = true := by simpa using h2
    have h60 := notesOk_len h2
    rw [if_pos ⟨h1, h2⟩, cloneN_eq' b (by omega)]
    refine Ev.bs ?_
    unfold impl_Unknown_1__slices_DeleteFunc_impl_Note.f
    refine Ev.bs (Ev.some_ ?_)
    simp only [fidx_any]
  · rw [if_neg (fun h => h1 h.1)]
    exact Ev.now _
theorem unk_good {a b : List Nt} (h : good a b) : good a (unk' a b) ∧ U a (unk' a b) = U a b := by
  have hu : unk' a b = b.filter (fun x => !(a.any (fun y => y.f0 == x.f0))) := by unfold unk'; rw [if_pos ⟨h.1, h.2.1⟩]
  have hok : notesOk (unk' a b) = true := by
    rw [hu]
    exact notesOk_of (Nat.le_trans (List.length_filter_le _ _) (notesOk_len h.2.1)) (fun x hx => notesOk_all h.2.1 x (List.mem_filter.1 hx).1) ((notesOk_asc h.2.1).filter _)
  have hag : agree a (unk' a b) := fun x hx y hy e => by
    rw [hu] at hy
    exact h.2.2.1 x hx y (List.mem_filter.1 hy).1 e
  have heq : U a (unk' a b) = U a b := asc_extN _ _ (mrg_asc h.1 hok) (mrg_asc h.1 h.2.1) (fun x => by
    rw [show (x ∈ U a (unk' a b) ↔ x ∈ a ∨ x ∈ unk' a b) from mem_mrg h.1 hok hag x, mem_U h, hu, List.mem_filter]
    constructor
    · rintro (h1 | h1)
      · exact .inl h1
      · exact .inr h1.1
    · rintro (h1 | h1)
      · exact .inl h1
      · by_cases hx : a.any (fun y => y.f0 == x.f0) = true
        · obtain ⟨y, hy, he⟩ := List.any_eq_true.1 hx
          have := h.2.2.1 y hy x h1 (beq_iff_eq.1 he)
          exact .inl (this ▸ hy)
        · exact .inr ⟨h1, by simpa using hx⟩)
  exact ⟨⟨h.1, hok, hag, by rw [heq]; exact h.2.2.2⟩, heq⟩
theorem ev_same (l : List Nt) (h : l.length ≤ maxLen) : Ev (fun k => laws_sameNotes.f k l l) true := by
  unfold maxLen at h
  unfold laws_sameNotes.f
  refine Ev.pos rfl ?_
  refine up_loop (fun k i => laws_sameNotes.l0 k l l i) l.length (fun _ => true) ?_ ?_ 0 (by omega)
  · exact Ev.step (fun k => laws_sameNotes.l0.eq_2 ..) (Ev.neg (by omega) (Ev.now _))
  · intro i hi ih
    refine Ev.step (fun k => laws_sameNotes.l0.eq_2 ..) (Ev.pos (by omega) (Ev.pos (by omega) (Ev.pos (by omega) (Ev.neg (by simp) ?_))))
    simp only [wrap_succ i (by omega)]
    exact ih
theorem FnEveryMerge : laws_FnEveryMerge.Pure := by
  rintro a b c ⟨ha, _⟩ ⟨hb, _⟩ ⟨hc, _⟩
  refine Ev.rounds ?_
  unfold laws_FnEveryMerge.f
  have ml : ∀ p q, (mrgN p q).1.length ≤ maxLen := fun p q => by have := mrgN_len p q; unfold maxLen; omega
  have eab := ev_impl_MergeNotes a b ha hb
  have eba := ev_impl_MergeNotes b a hb ha
  rw [← mrgN_comm a b] at eba
  refine Ev.bd eab (Ev.bd eba (Ev.neg (by simp) (Ev.bd (ev_same _ (ml a b)) ?_)))
  -- the unknown ones
  have last : Ev (fun k => laws_FnEveryMerge.j2 k a b (mrgN a b).1 (mrgN a b).2 false) true := by
    refine Ev.step (fun k => laws_FnEveryMerge.j2.eq_2 ..) (Ev.neg (by simp) (Ev.bd (ev_Unk a b ha hb) ?_))
    have hul : (unk' a b).length ≤ maxLen := by
      unfold unk'
      split
      · exact Nat.le_trans (List.length_filter_le _ _) hb
      · simp
    refine Ev.bd (ev_impl_MergeNotes a _ ha hul) ?_
    by_cases h : good a b
    · obtain ⟨g, e⟩ := unk_good h
      rw [mrgN_good h, mrgN_good g, e]
      have hl : (U a b).length ≤ maxLen := by have := h.2.2.2; unfold maxLen; omega
      refine Ev.pos rfl (Ev.pos rfl (Ev.bd (ev_same _ hl) (Ev.pos rfl (Ev.bd (ev_impl_NotesOk _ hl) (Ev.some_ (U_ok h))))))
    · rw [mrgN_bad h]
      exact Ev.neg (by simp) (Ev.now _)
  have mid : Ev (fun k => laws_FnEveryMerge.j1 k a b (mrgN a b).1 (mrgN a b).2 false) true := by
    refine Ev.step (fun k => laws_FnEveryMerge.j1.eq_2 ..) (Ev.neg (by simp) (Ev.bd (ev_impl_MergeNotes a a ha ha) (Ev.bd (ev_spec_NotesOk a) ?_)))
    by_cases h : notesOk a = true
    · obtain ⟨g, e⟩ := good_self h
      rw [mrgN_good g, e, h]
      exact Ev.neg (by simp) (Ev.pos rfl (Ev.bd (ev_same a ha) last))
    · have hf : notesOk a = false := Bool.eq_false_iff.2 h
      rw [mrgN_bad (fun g : good a a => h g.1), hf]
      exact Ev.neg (by simp) (Ev.neg (by simp) last)
  refine Ev.step (fun k => laws_FnEveryMerge.j0.eq_2 ..) (Ev.neg (by simp) (Ev.bd (ev_impl_MergeNotes _ c (ml a b) hc) (Ev.bd (ev_impl_MergeNotes b c hb hc) (Ev.bd (ev_impl_MergeNotes a _ ha (ml b c)) ?_))))
  by_cases h1 : good a b
  · rw [mrgN_good h1] at mid ⊢
    by_cases h2 : good b c
    · rw [mrgN_good h2]
      refine Ev.pos rfl (Ev.pos rfl ?_)
      by_cases h3 : good (U a b) c
      · obtain ⟨_, g, e⟩ := assoc h1 h3
        have hl : (U a (U b c)).length ≤ maxLen := by have := g.2.2.2; unfold maxLen; omega
        rw [mrgN_good h3, mrgN_good g, e]
        exact Ev.neg (by simp) (Ev.pos rfl (Ev.bd (ev_same _ hl) mid))
      · have h4 : ¬ good a (U b c) := fun g => h3 (assoc' h2 g).2
        rw [mrgN_bad h3, mrgN_bad h4]
        exact Ev.neg (by simp) (Ev.neg (by simp) mid)
    · have h3 : ¬ good (U a b) c := fun g => h2 (assoc h1 g).1
      rw [mrgN_bad h2, mrgN_bad h3]
      exact Ev.pos rfl (Ev.neg (by simp) (Ev.neg (by simp) (Ev.neg (by simp) mid)))
  · rw [mrgN_bad h1] at mid ⊢
    by_cases h2 : good b c
    · have h4 : ¬ good a (U b c) := fun g => h1 (assoc' h2 g).1
      rw [mrgN_good h2, mrgN_bad h4]
      exact Ev.neg (by simp) (Ev.pos rfl (Ev.neg (by simp) mid))
    · rw [mrgN_bad h2]
      exact Ev.neg (by simp) (Ev.neg (by simp) (Ev.neg (by simp) mid))
end Go.Proofs.Ytppojihmllmgnaa.Pure

/- What MergeNotes computes, in the reference. No condition. -/
import Derived.Test.YtppojihmllmgnaaNoteMerge
import Derived.Test.YtppojihmllmgnaaF52
namespace Go.Proofs.Ytppojihmllmgnaa.F
open Go.RowKit Go.Proofs.YtppojihmllmgnaaW.PrintWords Go.Proofs.YtppojihmllmgnaaW.PrintLast Go.Proofs.Ytppojihmllmgnaa.Opn
set_option linter.unusedVariables false
set_option linter.unusedSimpArgs false
theorem ev_spec_MergeNotes (a b : List Nt) (ha : a.length ≤ 1048576) (hb : b.length ≤ 1048576) : Ev (fun k => spec_MergeNotes.f k a b) (mrgN a b) := by
  unfold spec_MergeNotes.f mrgN
  refine Ev.bd (ev_spec_NotesOk a) (Ev.ite (fun h1 => Ev.bd (ev_spec_NotesOk b) (Ev.step (fun k => spec_MergeNotes.j0.eq_2 ..) (Ev.ite (fun h2 => ?_) (fun h2 => ?_)))) (fun h1 => Ev.step (fun k => spec_MergeNotes.j0.eq_2 ..) (Ev.pos rfl ?_)))
  · rw [if_neg (fun h => by rw [h.1.2] at h2; simp at h2)]
    exact Ev.now _
  · have h2 : notesOk b = true := by simpa using h2
    have h60 := notesOk_len h1
    have h60b := notesOk_len h2
    have step : ∀ i, i < b.length → ¬ conf a (b.getD i z25) → ∀ r, Ev (fun k => spec_MergeNotes.l0 k a b (mrg a b (i + 1)) ((i + 1 : Nat) : Int)) r → Ev (fun k => spec_MergeNotes.l0 k a b (mrg a b i) (i : Int)) r := by
      intro i hi hc r ih
      have hlen := (mrg_len a b i).2.1
      refine Ev.step (fun k => spec_MergeNotes.l0.eq_2 ..) (Ev.pos (by omega) (Ev.pos (by omega) ?_))
      simp only [rd_nat, wrap_succ i (by omega)]
      simp only [mrg] at ih
      refine Ev.bd (ev_l08At a _ ha) (Ev.ite (fun c => ?_) (fun c => ?_))
      · rw [if_pos (show (at8 a (b.getD i z25).f0).f0 = 0 from c)] at ih
        exact Ev.bd (ev_l08With _ _ (by omega)) ih
      · rw [if_neg (show ¬ (at8 a (b.getD i z25).f0).f0 = 0 from c)] at ih
        refine Ev.neg (fun hx => hc ⟨c, ?_⟩) ih
        simp only [tup, Bool.or_eq_true, Bool.not_eq_true'] at hx
        unfold eqN
        rcases hx with h | h | h | h | h <;> rw [h] <;> simp
    refine Ev.bs (Ev.pos (by simp only [List.length_nil]; omega) ?_)
    rw [List.nil_append]
    by_cases hall : ∀ j, j < b.length → ¬ conf a (b.getD j z25)
    · refine up_state (fun k s i => spec_MergeNotes.l0 k a b s i) b.length (fun i => mrg a b i) _ ?_ (fun i hi ih => step i hi (hall i hi) _ ih) 0 (by omega)
      refine Ev.step (fun k => spec_MergeNotes.l0.eq_2 ..) (Ev.neg (by omega) (Ev.ite (fun c => ?_) (fun c => ?_)))
      · rw [if_neg (fun h => by have := h.2.2; omega)]
        exact Ev.now _
      · rw [if_pos ⟨⟨h1, h2⟩, hall, by omega⟩]
        exact Ev.now _
    · rw [if_neg (fun h => hall h.2.1)]
      obtain ⟨m, hm, hbad, hlt⟩ := first_failN _ _ hall
      refine up_state (fun k s i => spec_MergeNotes.l0 k a b s i) m (fun i => mrg a b i) _ ?_ (fun i hi ih => step i (by omega) (hlt i hi) _ ih) 0 (by omega)
      have hcf : conf a (b.getD m z25) := Decidable.not_not.1 hbad
      refine Ev.step (fun k => spec_MergeNotes.l0.eq_2 ..) (Ev.pos (by omega) (Ev.pos (by omega) ?_))
      simp only [rd_nat]
      refine Ev.bd (ev_l08At a _ ha) (Ev.neg (show ¬ (at8 a (b.getD m z25).f0).f0 = 0 from hcf.1) (Ev.pos ?_ (Ev.now _)))
      have := hcf.2
      unfold eqN at this
      simp only [tup]
      simp only [Bool.and_eq_false_iff] at this
      rcases this with h | h | h | h | h <;> rw [h] <;> simp
  · rw [if_neg (fun h => h1 h.1.1)]
    exact Ev.now _
end Go.Proofs.Ytppojihmllmgnaa.F

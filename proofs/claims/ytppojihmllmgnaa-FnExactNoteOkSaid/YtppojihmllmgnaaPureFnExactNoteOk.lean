/- NoteOk of the program is that of the reference: the pure statement. No condition. -/
import Derived.Test.YtppojihmllmgnaaStFnExactNoteOk
import Derived.Test.YtppojihmllmgnaaNoteBase
namespace Go.Proofs.Ytppojihmllmgnaa.Pure
open Go.RowKit Go.Proofs.YtppojihmllmgnaaW.PrintWords Go.Proofs.Ytppojihmllmgnaa.Opn Go.Proofs.Ytppojihmllmgnaa.F
theorem FnExactNoteOk : laws_FnExactNoteOk.Pure := by
  intro x _
  refine Ev.rounds ?_
  unfold laws_FnExactNoteOk.f laws_toNote.f
  refine Ev.bs (Ev.bd (ev_spec_NoteOk ⟨x.f0, x.f1, x.f2, x.f3, x.f4⟩) (Ev.bs (Ev.bd (ev_impl_NoteOk ⟨x.f0, x.f1, x.f2, x.f3, x.f4⟩) ?_)))
  exact Ev.neg (by simp) (Ev.now _)
end Go.Proofs.Ytppojihmllmgnaa.Pure

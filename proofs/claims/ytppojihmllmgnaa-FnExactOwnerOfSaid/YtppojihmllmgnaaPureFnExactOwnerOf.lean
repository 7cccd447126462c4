/- OwnerOf of the program is that of the reference: the pure statement. No condition. -/
import Derived.Test.YtppojihmllmgnaaStFnExactOwnerOf
import Derived.Test.YtppojihmllmgnaaNoteLast
namespace Go.Proofs.Ytppojihmllmgnaa.Pure
open Go.RowKit Go.Proofs.YtppojihmllmgnaaW.PrintWords Go.Proofs.Ytppojihmllmgnaa.Opn Go.Proofs.Ytppojihmllmgnaa.F
theorem FnExactOwnerOf : laws_FnExactOwnerOf.Pure := by
  rintro x a1 ⟨hx, _⟩ _
  refine Ev.rounds ?_
  unfold laws_FnExactOwnerOf.f
  rw [szNoteS_eq x _ (by omega) (by omega) hx]
  refine Ev.bs (Ev.ite (fun _ => Ev.now _) (fun hn => ?_))
  have hl : x.length ≤ 1048576 := by split at hn <;> omega
  have hm : (x.map cvN).length ≤ maxLen := by simpa using hx
  refine Ev.bd (ev_toNoteS x hl) (Ev.bd (ev_spec_OwnerOf _ _ hm) (Ev.bd (ev_toNoteS x hl) (Ev.bd (ev_impl_OwnerOf _ _ hm) ?_)))
  simp only [laws_eqOwner.f, if_true]
  refine Ev.bs (Ev.pos rfl (Ev.step (fun k => laws_FnExactOwnerOf.j0.eq_2 ..) (Ev.neg (by simp) (Ev.bd (ev_toNoteS x hl) (Ev.bd (ev_eqNoteS _ hm) (Ev.pos rfl (Ev.now _)))))))
end Go.Proofs.Ytppojihmllmgnaa.Pure

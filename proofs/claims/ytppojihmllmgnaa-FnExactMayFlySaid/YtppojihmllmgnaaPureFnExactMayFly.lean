/- MayFly of the program is that of the reference: the pure statement. No condition. -/
import Derived.Test.YtppojihmllmgnaaStFnExactMayFly
import Derived.Test.YtppojihmllmgnaaNoteLast
namespace Go.Proofs.Ytppojihmllmgnaa.Pure
open Go.RowKit Go.Proofs.YtppojihmllmgnaaW.PrintWords Go.Proofs.Ytppojihmllmgnaa.Opn Go.Proofs.Ytppojihmllmgnaa.F
theorem FnExactMayFly : laws_FnExactMayFly.Pure := by
  rintro x a1 a2 ⟨hx, _⟩ _ _
  refine Ev.rounds ?_
  unfold laws_FnExactMayFly.f
  rw [szNoteS_eq x _ (by omega) (by omega) hx]
  refine Ev.bs (Ev.ite (fun _ => Ev.now _) (fun hn => ?_))
  have hl : x.length ≤ 1048576 := by split at hn <;> omega
  have hm : (x.map cvN).length ≤ maxLen := by simpa using hx
  exact Ev.bd (ev_toNoteS x hl) (Ev.bd (ev_spec_MayFly _ _ _ hm) (Ev.bd (ev_toNoteS x hl) (Ev.bd (ev_impl_MayFly _ _ _ hm) (Ev.neg (by simp) (Ev.bd (ev_toNoteS x hl) (Ev.bd (ev_eqNoteS _ hm) (Ev.pos rfl (Ev.now _))))))))
end Go.Proofs.Ytppojihmllmgnaa.Pure

/- LeastDifference of the program is that of the reference: the pure statement. No condition. -/
import Derived.Test.YtnldmnlfocigaaaStFnExactLeastDifference
import Derived.Test.YtnldmnlfocigaaaLoadSides
namespace Go.Proofs.Ytnldmnlfocigaaa.Pure
open Go.RowKit Go.Proofs.YtnldmnlfocigaaaW.PrintWords Go.Proofs.Ytnldmnlfocigaaa.Opn Go.Proofs.Ytnldmnlfocigaaa.F
theorem FnExactLeastDifference : laws_FnExactLeastDifference.PureR := by
  rintro x ⟨hx, _⟩
  refine Ev.rounds ?_
  unfold laws_FnExactLeastDifference.f
  refine Ev.ite (fun _ => Ev.now _) (fun hn => ?_)
  have hl : x.length ≤ 1048576 := by omega
  exact Ev.bd (ev_toIntS x hl) (Ev.bd (ev_spec_LeastDifference x) (Ev.bd (ev_toIntS x hl) (Ev.bd (ev_impl_LeastDifference x) (Ev.pos rfl (Ev.bd (ev_toIntS x hl) (Ev.bd (ev_eqIntS x hl) (Ev.pos rfl (Ev.now _))))))))
end Go.Proofs.Ytnldmnlfocigaaa.Pure

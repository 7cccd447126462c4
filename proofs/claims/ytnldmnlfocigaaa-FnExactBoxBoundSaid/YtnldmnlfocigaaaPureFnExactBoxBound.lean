/- BoxBound of the program is that of the reference: the pure statement. No condition. -/
import Derived.Test.YtnldmnlfocigaaaStFnExactBoxBound
import Derived.Test.YtnldmnlfocigaaaLoadBound
namespace Go.Proofs.Ytnldmnlfocigaaa.Pure
open Go.RowKit Go.Proofs.YtnldmnlfocigaaaW.PrintWords Go.Proofs.Ytnldmnlfocigaaa.Opn Go.Proofs.Ytnldmnlfocigaaa.F
theorem FnExactBoxBound : laws_FnExactBoxBound.Pure := by
  rintro m x _ ⟨hx, _⟩
  refine Ev.rounds ?_
  unfold laws_FnExactBoxBound.f
  rw [szPieceS_eq x _ (by omega) (by omega) hx]
  refine Ev.bs (Ev.ite (fun _ => Ev.now _) (fun hn => ?_))
  have hl : x.length ≤ 1048576 := by split at hn <;> omega
  have hm : (x.map cvP).length ≤ 1048576 := by simpa using hl
  unfold laws_toLimits.f
  exact Ev.bs (Ev.bd (ev_toPieceS x hl) (Ev.bd (ev_spec_BoxBound _ _ _ hm) (Ev.bd (ev_toPieceS x hl) (Ev.bs (Ev.bd (ev_impl_BoxBound _ _ _ hm) (Ev.pos rfl (Ev.bd (ev_toPieceS x hl) (Ev.bd (ev_eqPieceS _ hm) (Ev.pos rfl (Ev.now _))))))))))
end Go.Proofs.Ytnldmnlfocigaaa.Pure

/- Lay of the program is that of the reference: the pure statement. No condition. -/
import Derived.Test.YtnldmnlfocigaaaStFnExactLay
import Derived.Test.YtnldmnlfocigaaaLoadSides
namespace Go.Proofs.Ytnldmnlfocigaaa.Pure
open Go.RowKit Go.Proofs.YtnldmnlfocigaaaW.PrintWords Go.Proofs.Ytnldmnlfocigaaa.Opn Go.Proofs.Ytnldmnlfocigaaa.F
theorem FnExactLay : laws_FnExactLay.PureR := by
  rintro x ⟨hx, _⟩
  refine Ev.rounds ?_
  unfold laws_FnExactLay.f
  refine Ev.ite (fun _ => Ev.now _) (fun hn => ?_)
  have hl : x.length ≤ 1048576 := by omega
  have hy := LY_length x
  have heq := ev_eqBoolS (LY x) (by omega)
  have hmark := ev_markBoolS (LY x) 1 (by omega) (by omega)
  have hheld := ev_heldBoolS (LY x).length 1 (by omega) (by omega)
  refine Ev.bd (ev_toIntS x hl) (Ev.bd (ev_spec_Lay x) (Ev.bd (ev_toIntS x hl) (Ev.bd (ev_impl_Lay x) (Ev.bd heq (Ev.pos rfl (Ev.bd (ev_toIntS x hl) (Ev.bd (ev_eqIntS x hl) (Ev.pos rfl (Ev.bd (ev_markIntS x 1 hl (by omega)) (Ev.neg (by simp only; omega) (Ev.bd heq ?_)))))))))))
  refine Ev.step (fun k => laws_FnExactLay.j0.eq_2 ..) (Ev.neg (by simp) ?_)
  exact Ev.bd hmark (Ev.bd hheld (Ev.neg (by omega) (Ev.pos rfl (Ev.bd (ev_toIntS x hl) (Ev.bd (ev_impl_Lay x) (Ev.bd heq (Ev.pos rfl (Ev.bd hheld (Ev.neg (by omega) (Ev.pos rfl (Ev.now _)))))))))))
end Go.Proofs.Ytnldmnlfocigaaa.Pure

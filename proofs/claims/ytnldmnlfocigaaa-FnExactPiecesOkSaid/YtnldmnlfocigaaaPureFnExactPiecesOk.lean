/- PiecesOk of the program is that of the reference: the pure statement. No condition. -/
import Derived.Test.YtnldmnlfocigaaaStFnExactPiecesOk
import Derived.Test.YtnldmnlfocigaaaPieceHarness
namespace Go.Proofs.Ytnldmnlfocigaaa.Pure
open Go.RowKit Go.Proofs.YtnldmnlfocigaaaW.PrintWords Go.Proofs.Ytnldmnlfocigaaa.Opn Go.Proofs.Ytnldmnlfocigaaa.F
theorem FnExactPiecesOk : laws_FnExactPiecesOk.Pure := by
  rintro x ⟨hx, _⟩
  refine Ev.rounds ?_
  unfold laws_FnExactPiecesOk.f
  rw [szPieceS_eq x _ (by omega) (by omega) hx]
  refine Ev.bs (Ev.ite (fun _ => Ev.now _) (fun hn => ?_))
  have hl : x.length ≤ 1048576 := by split at hn <;> omega
  have hm : (x.map cvP).length ≤ 1048576 := by simpa using hl
  exact Ev.bd (ev_toPieceS x hl) (Ev.bd (ev_spec_PiecesOk _ hm) (Ev.bd (ev_toPieceS x hl) (Ev.bd (ev_impl_PiecesOk _ hm) (Ev.neg (by simp) (Ev.bd (ev_toPieceS x hl) (Ev.bd (ev_eqPieceS _ hm) (Ev.pos rfl (Ev.now _))))))))
end Go.Proofs.Ytnldmnlfocigaaa.Pure

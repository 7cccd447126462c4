/- FewestBoxes of the program is that of the reference: the pure statement. No condition. -/
import Derived.Test.YtnldmnlfocigaaaStFnExactFewestBoxes
import Derived.Test.YtnldmnlfocigaaaBoxSearch
namespace Go.Proofs.Ytnldmnlfocigaaa.Pure
open Go.RowKit Go.Proofs.YtnldmnlfocigaaaW.PrintWords Go.Proofs.Ytnldmnlfocigaaa.Opn Go.Proofs.Ytnldmnlfocigaaa.F
theorem FnExactFewestBoxes : laws_FnExactFewestBoxes.Pure := by
  rintro m x _ ⟨hx, _⟩
  refine Ev.rounds ?_
  unfold laws_FnExactFewestBoxes.f
  rw [szPieceS_eq x _ (by omega) (by omega) hx]
  refine Ev.bs (Ev.ite (fun _ => Ev.now _) (fun hn => ?_))
  have hl : x.length ≤ 1048576 := by split at hn <;> omega
  have hm : (x.map cvP).length ≤ 1048576 := by simpa using hl
  have t := ev_toPieceS x hl
  obtain ⟨r1, e1, h1⟩ := ev_spec_FewestBoxes m.f0 m.f1 (x.map cvP) hm
  obtain ⟨r2, e2, h2⟩ := ev_impl_FewestBoxes m.f0 m.f1 (x.map cvP) hm
  have hr : r2 = r1 := by
    split at h1
    · rename_i hc
      rw [if_pos hc] at h2
      obtain ⟨v1, o1, rfl⟩ := h1
      obtain ⟨v2, o2, rfl⟩ := h2
      rw [OptC_one o1 o2]
    · rename_i hc
      rw [if_neg hc] at h2
      rw [h1, h2]
  subst hr
  unfold laws_toLimits.f
  exact Ev.bs (Ev.bd t (Ev.bd e1 (Ev.bd t (Ev.bs (Ev.bd e2 (Ev.pos rfl (Ev.bd t (Ev.bd (ev_eqPieceS _ hm) (Ev.pos rfl (Ev.now _))))))))))
end Go.Proofs.Ytnldmnlfocigaaa.Pure

/- FirstFit of the program is that of the reference: the pure statement. No condition. -/
import Derived.Test.YtnldmnlfocigaaaStFnExactFirstFit
import Derived.Test.YtnldmnlfocigaaaFitBase
import Derived.Test.YtnldmnlfocigaaaFitMarks
import Derived.Test.YtnldmnlfocigaaaPieceHarness
namespace Go.Proofs.Ytnldmnlfocigaaa.Pure
open Go.RowKit Go.Proofs.YtnldmnlfocigaaaW.PrintWords Go.Proofs.Ytnldmnlfocigaaa.Opn Go.Proofs.Ytnldmnlfocigaaa.F
theorem FnExactFirstFit : laws_FnExactFirstFit.Pure := by
  rintro m x _ ⟨hx, _⟩
  refine Ev.rounds ?_
  unfold laws_FnExactFirstFit.f
  rw [szPieceS_eq x _ (by omega) (by omega) hx]
  refine Ev.bs (Ev.ite (fun _ => Ev.now _) (fun hn => ?_))
  have hl : x.length ≤ 1048576 := by split at hn <;> omega
  have hm : (x.map cvP).length ≤ 1048576 := by simpa using hl
  have t := ev_toPieceS x hl
  have e1 := ev_spec_FirstFit m.f0 m.f1 (x.map cvP) hm
  have e2 := ev_impl_FirstFit m.f0 m.f1 (x.map cvP) hm
  obtain ⟨b1, b2⟩ := FF_bound m.f0 m.f1 (x.map cvP)
  obtain ⟨p2, e3⟩ := ev_markPieceS (x.map cvP) hm
  have e4 := ev_markBoxS _ b1 b2
  obtain ⟨K1, h1⟩ := ev_eqBoxS (FF m.f0 m.f1 (x.map cvP)) (by omega) (fun y hy => by have := b2 y hy; omega)
  obtain ⟨K2, h2⟩ := ev_eqPieceS (x.map cvP) hm
  obtain ⟨K3, h3⟩ := ev_heldBoxS _ b1 b2
  unfold laws_toLimits.f
  refine Ev.bs (Ev.bd t (Ev.bd e1 (Ev.bd e2 (Ev.bd e3 (Ev.bd e4 ?_)))))
  refine Ev.from_ (max K1 (max K2 K3)) (fun k hk => ?_)
  rw [if_pos ⟨h1 k (by omega), h2 k (by omega), by simp only; omega, h3 k (by omega), by simp only; omega⟩]
end Go.Proofs.Ytnldmnlfocigaaa.Pure

/- BoxesOk of the program is that of the reference: the pure statement. No condition. -/
import Derived.Test.YtnldmnlfocigaaaStFnExactBoxesOk
import Derived.Test.YtnldmnlfocigaaaBoxOkI
import Derived.Test.YtnldmnlfocigaaaBoxOkS
import Derived.Test.YtnldmnlfocigaaaBoxHarness
import Derived.Test.YtnldmnlfocigaaaPieceHarness
namespace Go.Proofs.Ytnldmnlfocigaaa.Pure
open Go.RowKit Go.Proofs.YtnldmnlfocigaaaW.PrintWords Go.Proofs.Ytnldmnlfocigaaa.Opn Go.Proofs.Ytnldmnlfocigaaa.F
theorem FnExactBoxesOk : laws_FnExactBoxesOk.Pure := by
  rintro m x B _ ⟨hx, _⟩ ⟨hB, hB2⟩
  refine Ev.rounds ?_
  unfold laws_FnExactBoxesOk.f
  rw [szPieceS_eq x _ (by omega) (by omega) hx]
  refine Ev.bs (Ev.ite (fun _ => Ev.now _) (fun hn => ?_))
  have hl : x.length ≤ 1048576 := by split at hn <;> omega
  have hm : (x.map cvP).length ≤ 1048576 := by simpa using hl
  have t := ev_toPieceS x hl
  rw [if_neg (by omega)]
  obtain ⟨r, er, hr⟩ := ev_szBoxS B (1048576 - (x.length : Int)) (by omega) (by omega) hB (fun y hy => (hB2 y hy).2.2.1)
  refine Ev.bd er (Ev.ite (fun _ => Ev.now _) (fun hn2 => ?_))
  obtain ⟨hb1, hb2⟩ := hr (by omega)
  have tb := ev_toBoxS B hb1 hb2
  have hmb : (B.map cvB).length ≤ maxLen := by simpa using hB
  have e1 := ev_spec_BoxesOk m.f0 m.f1 (x.map cvP) hm (B.map cvB) hmb
  have e2 := ev_impl_BoxesOk m.f0 m.f1 (x.map cvP) hm (B.map cvB) hmb
  have eb := ev_eqBoxS (B.map cvB) (by simpa using hb1) (fun y hy => by
    obtain ⟨z, hz, rfl⟩ := List.mem_map.1 hy
    exact hb2 z hz)
  unfold laws_toLimits.f
  exact Ev.bs (Ev.bd t (Ev.bd tb (Ev.bd e1 (Ev.bd t (Ev.bd tb (Ev.bs (Ev.bd e2 (Ev.neg (by simp) (Ev.bd t (Ev.bd (ev_eqPieceS _ hm) (Ev.pos rfl (Ev.bd tb (Ev.bd eb (Ev.pos rfl (Ev.now _)))))))))))))))
end Go.Proofs.Ytnldmnlfocigaaa.Pure

/- HeldUp of the program is that of the reference: the pure statement. No condition. -/
import Derived.Test.YtppojihmllmgnaaStFnExactHeldUp
import Derived.Test.YtppojihmllmgnaaNoteHeld
import Derived.Test.YtppojihmllmgnaaNoteInts
namespace Go.Proofs.Ytppojihmllmgnaa.Pure
open Go.RowKit Go.Proofs.YtppojihmllmgnaaW.PrintWords Go.Proofs.Ytppojihmllmgnaa.Opn Go.Proofs.Ytppojihmllmgnaa.F
theorem FnExactHeldUp : laws_FnExactHeldUp.Pure := by
  rintro a fl ⟨ha, _⟩ _
  refine Ev.rounds ?_
  unfold laws_FnExactHeldUp.f
  rw [szNoteS_eq a _ (by omega) (by omega) ha]
  refine Ev.bs (Ev.ite (fun _ => Ev.now _) (fun hn => ?_))
  have hla : a.length ≤ 1048576 := by split at hn <;> omega
  have hma : (a.map cvN).length ≤ 1048576 := by simpa using hla
  have hxa : (a.map cvN).length ≤ maxLen := by unfold maxLen; omega
  have ta := ev_toNoteS a hla
  have hu := held_len (a.map cvN) fl
  have is := ev_spec_HeldUp (a.map cvN) fl hma
  have ii := ev_impl_HeldUp (a.map cvN) fl hma
  have eu := ev_eqIntS (held (a.map cvN) fl) (by omega)
  have mk := ev_markIntS (held (a.map cvN) fl) 1 (by omega) (by omega)
  have hd := ev_heldIntS (held (a.map cvN) fl).length 1 (by omega) (by omega)
  refine Ev.bd ta (Ev.bd is (Ev.bd ta (Ev.bd ii (Ev.bd eu (Ev.pos rfl (Ev.bd ta (Ev.bd (ev_eqNoteS _ hxa) (Ev.pos rfl ?_))))))))
  refine Ev.bd (ev_markNoteS _ 1 hma (by omega)) (Ev.neg (by simp only; omega) (Ev.bd eu ?_))
  refine Ev.step (fun k => laws_FnExactHeldUp.j0.eq_2 ..) (Ev.neg (by simp) ?_)
  exact Ev.bd mk (Ev.bd hd (Ev.neg (by omega) (Ev.pos rfl (Ev.bd ta (Ev.bd ii (Ev.bd eu (Ev.pos rfl (Ev.bd hd (Ev.neg (by omega) (Ev.pos rfl (Ev.now _)))))))))))
end Go.Proofs.Ytppojihmllmgnaa.Pure

/- AddNote of the program is that of the reference: the pure statement. No condition. -/
import Derived.Test.YtppojihmllmgnaaStFnExactAddNote
import Derived.Test.YtppojihmllmgnaaNoteAdd
namespace Go.Proofs.Ytppojihmllmgnaa.Pure
open Go.RowKit Go.Proofs.YtppojihmllmgnaaW.PrintWords Go.Proofs.Ytppojihmllmgnaa.Opn Go.Proofs.Ytppojihmllmgnaa.F
theorem FnExactAddNote : laws_FnExactAddNote.Pure := by
  rintro a n ⟨ha, _⟩ _
  refine Ev.rounds ?_
  unfold laws_FnExactAddNote.f laws_toNote.f
  rw [szNoteS_eq a _ (by omega) (by omega) ha]
  refine Ev.bs (Ev.ite (fun _ => Ev.now _) (fun hn => ?_))
  have hla : a.length ≤ 1048576 := by split at hn <;> omega
  have hma : (a.map cvN).length ≤ 1048576 := by simpa using hla
  have hxa : (a.map cvN).length ≤ maxLen := by unfold maxLen; omega
  have ta := ev_toNoteS a hla
  have is := ev_spec_AddNote (a.map cvN) (cvN n) hma
  have ii := ev_impl_AddNote (a.map cvN) (cvN n) hma
  have hu := addN_len (a.map cvN) (cvN n) hma
  generalize addN (a.map cvN) (cvN n) = u at is ii hu
  have eu := ev_eqNoteS u.1 (by unfold maxLen; omega)
  refine Ev.bd ta (Ev.bs (Ev.bd is (Ev.bd ta (Ev.bs (Ev.bd ii (Ev.bd eu (Ev.pos rfl ?_)))))))
  refine Ev.step (fun k => laws_FnExactAddNote.j0.eq_2 ..) (Ev.neg (by simp) (Ev.bd ta (Ev.bd (ev_eqNoteS _ hxa) (Ev.pos rfl (Ev.bd (ev_markNoteS _ 1 hma (by omega)) (Ev.neg (by simp only; omega) (Ev.bd eu (Ev.pos rfl ?_))))))))
  refine Ev.step (fun k => laws_FnExactAddNote.j1.eq_2 ..) (Ev.neg (by simp) (Ev.bd (ev_markNoteS u.1 1 (by omega) (by omega)) (Ev.bd (ev_heldNoteS u.1.length 1 (by omega) (by omega)) (Ev.neg (by omega) (Ev.pos rfl (Ev.bd ta (Ev.bs (Ev.bd ii (Ev.bd eu (Ev.pos rfl ?_))))))))))
  exact Ev.step (fun k => laws_FnExactAddNote.j2.eq_2 ..) (Ev.neg (by simp) (Ev.bd (ev_heldNoteS u.1.length 1 (by omega) (by omega)) (Ev.neg (by omega) (Ev.pos rfl (Ev.now _)))))
end Go.Proofs.Ytppojihmllmgnaa.Pure

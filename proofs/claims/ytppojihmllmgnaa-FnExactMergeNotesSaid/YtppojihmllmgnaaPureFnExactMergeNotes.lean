/- MergeNotes of the program is that of the reference: the pure statement. No condition. -/
import Derived.Test.YtppojihmllmgnaaStFnExactMergeNotes
import Derived.Test.YtppojihmllmgnaaNoteMergeS
namespace Go.Proofs.Ytppojihmllmgnaa.Pure
open Go.RowKit Go.Proofs.YtppojihmllmgnaaW.PrintWords Go.Proofs.Ytppojihmllmgnaa.Opn Go.Proofs.Ytppojihmllmgnaa.F
theorem FnExactMergeNotes : laws_FnExactMergeNotes.Pure := by
  rintro a b ⟨ha, _⟩ ⟨hb, _⟩
  refine Ev.rounds ?_
  unfold laws_FnExactMergeNotes.f
  rw [szNoteS_eq a _ (by omega) (by omega) ha]
  refine Ev.bs (Ev.ite (fun _ => Ev.now _) (fun hn => ?_))
  have hla : a.length ≤ 1048576 := by split at hn <;> omega
  rw [if_neg (by omega)]
  rw [szNoteS_eq b _ (by omega) (by omega) hb]
  refine Ev.bs (Ev.ite (fun _ => Ev.now _) (fun hn2 => ?_))
  have hlb : b.length ≤ 1048576 := by split at hn2 <;> omega
  have hma : (a.map cvN).length ≤ 1048576 := by simpa using hla
  have hmb : (b.map cvN).length ≤ 1048576 := by simpa using hlb
  have hxa : (a.map cvN).length ≤ maxLen := by unfold maxLen; omega
  have hxb : (b.map cvN).length ≤ maxLen := by unfold maxLen; omega
  have ta := ev_toNoteS a hla
  have tb := ev_toNoteS b hlb
  have is := ev_spec_MergeNotes (a.map cvN) (b.map cvN) hma hmb
  have ii := ev_impl_MergeNotes (a.map cvN) (b.map cvN) hxa hxb
  have hu := mrgN_len (a.map cvN) (b.map cvN)
  generalize mrgN (a.map cvN) (b.map cvN) = u at is ii hu
  have eu := ev_eqNoteS u.1 (by unfold maxLen; omega)
  have mk := ev_markNoteS u.1 1 (by omega) (by omega)
  have hd := ev_heldNoteS u.1.length 1 (by omega) (by omega)
  refine Ev.bd ta (Ev.bd tb (Ev.bd is (Ev.bd ta (Ev.bd tb (Ev.bd ii (Ev.bd eu (Ev.pos rfl ?_)))))))
  refine Ev.step (fun k => laws_FnExactMergeNotes.j0.eq_2 ..) (Ev.neg (by simp) (Ev.bd ta (Ev.bd (ev_eqNoteS _ hxa) (Ev.pos rfl (Ev.bd tb (Ev.bd (ev_eqNoteS _ hxb) (Ev.pos rfl ?_)))))))
  refine Ev.bd (ev_markNoteS _ 1 hma (by omega)) (Ev.bd (ev_markNoteS _ _ hmb (by omega)) (Ev.neg (by simp only; omega) (Ev.bd eu (Ev.pos rfl ?_))))
  refine Ev.step (fun k => laws_FnExactMergeNotes.j1.eq_2 ..) (Ev.neg (by simp) (Ev.bd mk (Ev.bd hd (Ev.neg (by omega) (Ev.pos rfl (Ev.bd ta (Ev.bd tb (Ev.bd ii (Ev.bd eu (Ev.pos rfl ?_))))))))))
  exact Ev.step (fun k => laws_FnExactMergeNotes.j2.eq_2 ..) (Ev.neg (by simp) (Ev.bd hd (Ev.neg (by omega) (Ev.pos rfl (Ev.now _)))))
end Go.Proofs.Ytppojihmllmgnaa.Pure

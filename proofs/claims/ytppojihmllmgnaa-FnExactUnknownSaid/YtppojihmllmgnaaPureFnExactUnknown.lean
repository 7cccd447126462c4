/- Unknown of the program is that of the reference: the pure statement. No condition. -/
import Derived.Test.YtppojihmllmgnaaStFnExactUnknown
import Derived.Test.YtppojihmllmgnaaNoteUnknown
namespace Go.Proofs.Ytppojihmllmgnaa.Pure
open Go.RowKit Go.Proofs.YtppojihmllmgnaaW.PrintWords Go.Proofs.Ytppojihmllmgnaa.Opn Go.Proofs.Ytppojihmllmgnaa.F
theorem FnExactUnknown : laws_FnExactUnknown.Pure := by
  rintro a b ⟨ha, _⟩ ⟨hb, _⟩
  refine Ev.rounds ?_
  unfold laws_FnExactUnknown.f
  rw [szNoteS_eq a _ (by omega) (by omega) ha]
  refine Ev.bs (Ev.ite (fun _ => Ev.now _) (fun hn => ?_))
  have hla : a.length ≤ 1048576 := by split at hn <;> omega
  rw [if_neg (by omega)]
  rw [szNoteS_eq b _ (by omega) (by omega) hb]
  refine Ev.bs (Ev.ite (fun _ => Ev.now _) (fun hn2 => ?_))
  have hlb : b.length ≤ 1048576 := by split at hn2 <;> omega
  have hma : (a.map cvN).length ≤ 1048576 := by simpa using hla
  have hmb : (b.map cvN).length ≤ 1048576 := by simpa using hlb
  have hxa : (a.map cvN).length ≤ maxLen := by unfold maxLen; omega
  have hxb : (b.map cvN).length ≤ maxLen := by unfold maxLen; omega
  have ta := ev_toNoteS a hla
  have tb := ev_toNoteS b hlb
  have hu := unk_len (a.map cvN) (b.map cvN)
  have hux : (unk (a.map cvN) (b.map cvN)).length ≤ maxLen := by unfold maxLen; omega
  have is := ev_spec_Unknown (a.map cvN) (b.map cvN) hma hmb
  have ii := ev_impl_Unknown (a.map cvN) (b.map cvN) hma hmb
  have eu := ev_eqNoteS _ hux
  have mk := ev_markNoteS (unk (a.map cvN) (b.map cvN)) 1 (by omega) (by omega)
  have hd := ev_heldNoteS (unk (a.map cvN) (b.map cvN)).length 1 (by omega) (by omega)
  refine Ev.bd ta (Ev.bd tb (Ev.bd is (Ev.bd ta (Ev.bd tb (Ev.bd ii (Ev.bd eu (Ev.pos rfl (Ev.bd ta (Ev.bd (ev_eqNoteS _ hxa) (Ev.pos rfl (Ev.bd tb (Ev.bd (ev_eqNoteS _ hxb) (Ev.pos rfl ?_)))))))))))))
  refine Ev.bd (ev_markNoteS _ 1 hma (by omega)) (Ev.bd (ev_markNoteS _ _ hmb (by omega)) (Ev.neg (by simp only; omega) (Ev.bd eu ?_)))
  refine Ev.step (fun k => laws_FnExactUnknown.j0.eq_2 ..) (Ev.neg (by simp) ?_)
  exact Ev.bd mk (Ev.bd hd (Ev.neg (by omega) (Ev.pos rfl (Ev.bd ta (Ev.bd tb (Ev.bd ii (Ev.bd eu (Ev.pos rfl (Ev.bd hd (Ev.neg (by omega) (Ev.pos rfl (Ev.now _))))))))))))
end Go.Proofs.Ytppojihmllmgnaa.Pure

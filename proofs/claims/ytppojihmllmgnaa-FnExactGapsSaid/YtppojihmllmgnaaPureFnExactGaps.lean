/- Gaps of the program is that of the reference: the pure statement. No condition. -/
import Derived.Test.YtppojihmllmgnaaStFnExactGaps
import Derived.Test.YtppojihmllmgnaaNoteHarness
namespace Go.Proofs.Ytppojihmllmgnaa.Pure
open Go.RowKit Go.Proofs.YtppojihmllmgnaaW.PrintWords Go.Proofs.Ytppojihmllmgnaa.Opn Go.Proofs.Ytppojihmllmgnaa.F
def gaps (l : List Nt) : Int := if notesOk l = true then (if l.length = 0 then 0 else wrap64 ((l.getD (l.length - 1) z25).f0 - (l.length : Int))) else -1
theorem ev_spec_Gaps (l : List Nt) (hm : l.length ≤ maxLen) : Ev (fun k => spec_Gaps.f k l) (gaps l) := by
  unfold maxLen at hm
  unfold spec_Gaps.f gaps
  refine Ev.bd (ev_spec_NotesOk l) (Ev.ite (fun h => ?_) (fun h => Ev.some_ (by rw [if_neg h])))
  rw [if_pos h]
  refine Ev.ite (fun h0 => Ev.some_ (by rw [if_pos (by omega)])) (fun h0 => ?_)
  rw [wrap_pred _ (by omega) (by omega), rd_nat]
  exact Ev.pos (by omega) (Ev.pos (by omega) (Ev.some_ (by rw [if_neg (by omega)])))
theorem ev_impl_Gaps (l : List Nt) (hm : l.length ≤ maxLen) : Ev (fun k => impl_Gaps.f k l) (gaps l) := by
  have hm' := hm
  unfold maxLen at hm
  unfold impl_Gaps.f gaps
  refine Ev.bd (ev_impl_NotesOk l hm') (Ev.ite (fun h => ?_) (fun h => Ev.some_ (by rw [if_neg h])))
  rw [if_pos h]
  refine Ev.ite (fun h0 => Ev.some_ (by rw [if_pos (by omega)])) (fun h0 => ?_)
  rw [wrap_pred _ (by omega) (by omega), rd_nat]
  exact Ev.pos (by omega) (Ev.pos (by omega) (Ev.some_ (by rw [if_neg (by omega)])))
theorem FnExactGaps : laws_FnExactGaps.Pure := by
  rintro x ⟨hx, _⟩
  refine Ev.rounds ?_
  unfold laws_FnExactGaps.f
  rw [szNoteS_eq x _ (by omega) (by omega) hx]
  refine Ev.bs (Ev.ite (fun _ => Ev.now _) (fun hn => ?_))
  have hl : x.length ≤ 1048576 := by split at hn <;> omega
  have hm : (x.map cvN).length ≤ maxLen := by simpa using hx
  refine Ev.bd (ev_toNoteS x hl) (Ev.bd (ev_spec_Gaps _ hm) (Ev.bd (ev_toNoteS x hl) (Ev.bd (ev_impl_Gaps _ hm) (Ev.pos rfl (Ev.bd (ev_toNoteS x hl) (Ev.bd (ev_eqNoteS _ hm) (Ev.pos rfl (Ev.now _))))))))
end Go.Proofs.Ytppojihmllmgnaa.Pure

/- OffList of the program is that of the reference: the pure statement. No condition. -/
import Derived.Test.YtppojihmllmgnaaStFnExactOffList
import Derived.Test.YtppojihmllmgnaaNoteOff
import Derived.Test.YtppojihmllmgnaaNoteMarks
import Derived.Test.YtppojihmllmgnaaNoteInts
namespace Go.Proofs.Ytppojihmllmgnaa.Pure
open Go.RowKit Go.Proofs.YtppojihmllmgnaaW.PrintWords Go.Proofs.Ytppojihmllmgnaa.Opn Go.Proofs.Ytppojihmllmgnaa.F
theorem FnExactOffList : laws_FnExactOffList.Pure := by
  rintro a fl bags ⟨ha, _⟩ _ hbags
  refine Ev.rounds ?_
  unfold laws_FnExactOffList.f
  refine Ev.ite (fun _ => Ev.now _) (fun hb0 => ?_)
  have hlb : bags.length ≤ 1048576 := by omega
  rw [szNoteS_eq a _ (by omega) (by omega) ha]
  refine Ev.bs (Ev.ite (fun _ => Ev.now _) (fun hn => ?_))
  have hla : a.length ≤ 1048576 := by split at hn <;> omega
  have hma : (a.map cvN).length ≤ 1048576 := by simpa using hla
  have hxa : (a.map cvN).length ≤ maxLen := by unfold maxLen; omega
  have ta := ev_toNoteS a hla
  have tb := ev_toIntS bags hlb
  have hu := offl_len (a.map cvN) fl bags
  have is := ev_spec_OffList (a.map cvN) fl bags hxa hlb
  have ii := ev_impl_OffList (a.map cvN) fl bags hxa
  have eu := ev_eqIntS (offl (a.map cvN) fl bags) (by omega)
  have eb := ev_eqIntS bags hlb
  have mk := ev_markIntS (offl (a.map cvN) fl bags) 1 (by omega) (by omega)
  have hd := ev_heldIntS (offl (a.map cvN) fl bags).length 1 (by omega) (by omega)
  refine Ev.bd ta (Ev.bd tb (Ev.bd is (Ev.bd ta (Ev.bd tb (Ev.bd ii (Ev.bd eu (Ev.pos rfl (Ev.bd ta (Ev.bd (ev_eqNoteS _ hxa) (Ev.pos rfl (Ev.bd tb (Ev.bd eb (Ev.pos rfl ?_)))))))))))))
  refine Ev.bd (ev_markNoteS _ 1 hma (by omega)) (Ev.bd (ev_markIntS _ _ hlb (by omega)) (Ev.neg (by simp only; omega) (Ev.bd eu ?_)))
  refine Ev.step (fun k => laws_FnExactOffList.j0.eq_2 ..) (Ev.neg (by simp) ?_)
  exact Ev.bd mk (Ev.bd hd (Ev.neg (by omega) (Ev.pos rfl (Ev.bd ta (Ev.bd tb (Ev.bd ii (Ev.bd eu (Ev.pos rfl (Ev.bd hd (Ev.neg (by omega) (Ev.pos rfl (Ev.now _))))))))))))
end Go.Proofs.Ytppojihmllmgnaa.Pure

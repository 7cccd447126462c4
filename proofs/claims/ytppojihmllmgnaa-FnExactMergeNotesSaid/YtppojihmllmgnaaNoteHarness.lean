/- What the laws' own functions on lists of notes do: copy, compare, mark, look for the marks. No condition. -/
import Derived.Test.YtppojihmllmgnaaNoteBase
import Derived.Test.YtppojihmllmgnaaF24
import Derived.Test.YtppojihmllmgnaaF26
import Derived.Test.YtppojihmllmgnaaF22
namespace Go.Proofs.Ytppojihmllmgnaa.F
open Go.RowKit Go.Proofs.YtppojihmllmgnaaW.PrintWords Go.Proofs.YtppojihmllmgnaaW.PrintLast Go.Proofs.Ytppojihmllmgnaa.Opn
set_option linter.unusedVariables false
set_option linter.unusedSimpArgs false
abbrev LNt := S23
def cvN (x : LNt) : Nt := ⟨x.f0, x.f1, x.f2, x.f3, x.f4⟩
theorem rdL_nat (l : List LNt) (i : Nat) : rd_T23 l (i : Int) = l.getD i z23 := by simp [rd_T23]
theorem ev_toNoteS (l : List LNt) (h : l.length ≤ 1048576) : Ev (fun k => laws_toNoteS.f k l) (l.map cvN) := by
  unfold laws_toNoteS.f
  refine Ev.pos (by omega) (Ev.pos (by simp; omega) ?_)
  rw [← map_range_eq cvN l z23]
  have hf : List.replicate ((l.length : Int)).toNat z25 = filled (fun j => cvN (l.getD j z23)) (List.replicate l.length z25) 0 := by rw [filled_zero]; simp
  rw [hf]
  refine up_state (fun k s i => laws_toNoteS.l0 k l s i) l.length (fun i => filled (fun j => cvN (l.getD j z23)) (List.replicate l.length z25) i) _ ?_ ?_ 0 (by omega)
  · refine Ev.step (fun k => laws_toNoteS.l0.eq_2 ..) (Ev.neg (by omega) (Ev.some_ ?_))
    have := filled_all (fun j => cvN (l.getD j z23)) (List.replicate l.length z25)
    simpa using this
  · intro i hi ih
    refine Ev.step (fun k => laws_toNoteS.l0.eq_2 ..) (Ev.pos (by omega) (Ev.pos (by omega) ?_))
    simp only [laws_toNote.f, rdL_nat, Int.toNat_natCast, wrap_succ i (by omega)]
    refine Ev.bs (Ev.pos (by rw [filled_length _ _ _ (by simp; omega)]; simp; omega) ?_)
    rw [← filled_set _ _ i (by simp; omega)] at ih
    exact ih
theorem ev_eqNoteS (l : List Nt) (h : l.length ≤ maxLen) : Ev (fun k => laws_eqNoteS.f k l l) true := by
  unfold maxLen at h
  unfold laws_eqNoteS.f
  refine Ev.pos rfl ?_
  refine up_loop (fun k i => laws_eqNoteS.l0 k l l i) l.length (fun _ => true) ?_ ?_ 0 (by omega)
  · exact Ev.step (fun k => laws_eqNoteS.l0.eq_2 ..) (Ev.neg (by omega) (Ev.now _))
  · intro i hi ih
    refine Ev.step (fun k => laws_eqNoteS.l0.eq_2 ..) (Ev.pos (by omega) (Ev.pos (by omega) (Ev.pos (by omega) ?_)))
    simp only [wrap_succ i (by omega), laws_eqNote.f, if_true]
    exact Ev.bs (Ev.pos rfl ih)
theorem szNoteS_eq (l : List LNt) (n : Int) (h0 : 0 ≤ n) (h1 : n ≤ 1048576) (h : l.length ≤ maxLen) : laws_szNoteS.f l n = some (if n - (l.length : Int) < 0 then -1 else n - (l.length : Int)) := by
  unfold maxLen at h
  unfold laws_szNoteS.f
  rw [wrap_id (by omega) (by omega)]
  split <;> rfl
end Go.Proofs.Ytppojihmllmgnaa.F

/- What the laws' own functions on lists of pieces do. No condition. -/
import Derived.Test.YtnldmnlfocigaaaPieceBase
import Derived.Test.YtnldmnlfocigaaaF34
import Derived.Test.YtnldmnlfocigaaaF36
import Derived.Test.YtnldmnlfocigaaaF32
namespace Go.Proofs.Ytnldmnlfocigaaa.F
open Go.RowKit Go.Proofs.YtnldmnlfocigaaaW.PrintWords Go.Proofs.YtnldmnlfocigaaaW.PrintLast Go.Proofs.Ytnldmnlfocigaaa.Opn
set_option linter.unusedVariables false
set_option linter.unusedSimpArgs false
abbrev LPc := S82
def cvP (x : LPc) : Pc := ⟨x.f0, x.f1, x.f2⟩
theorem rdLP_nat (l : List LPc) (i : Nat) : rd_T82 l (i : Int) = l.getD i z82 := by simp [rd_T82]
theorem ev_toPieceS (l : List LPc) (h : l.length ≤ 1048576) : Ev (fun k => laws_toPieceS.f k l) (l.map cvP) := by
  unfold laws_toPieceS.f
  refine Ev.pos (by omega) (Ev.pos (by simp; omega) ?_)
  rw [← map_range_eq cvP l z82]
  have hf : List.replicate ((l.length : Int)).toNat z80 = filled (fun j => cvP (l.getD j z82)) (List.replicate l.length z80) 0 := by rw [filled_zero]; simp
  rw [hf]
  refine up_state (fun k s i => laws_toPieceS.l0 k l s i) l.length (fun i => filled (fun j => cvP (l.getD j z82)) (List.replicate l.length z80) i) _ ?_ ?_ 0 (by omega)
  · refine Ev.step (fun k => laws_toPieceS.l0.eq_2 ..) (Ev.neg (by omega) (Ev.some_ ?_))
    have := filled_all (fun j => cvP (l.getD j z82)) (List.replicate l.length z80)
    simpa using this
  · intro i hi ih
    refine Ev.step (fun k => laws_toPieceS.l0.eq_2 ..) (Ev.pos (by omega) (Ev.pos (by omega) ?_))
    simp only [laws_toPiece.f, rdLP_nat, Int.toNat_natCast, wrap_succ i (by omega)]
    refine Ev.bs (Ev.pos (by rw [filled_length _ _ _ (by simp; omega)]; simp; omega) ?_)
    rw [← filled_set _ _ i (by simp; omega)] at ih
    exact ih
theorem ev_eqPieceS (l : List Pc) (h : l.length ≤ 1048576) : Ev (fun k => laws_eqPieceS.f k l l) true := by
  unfold laws_eqPieceS.f
  refine Ev.pos rfl ?_
  refine up_loop (fun k i => laws_eqPieceS.l0 k l l i) l.length (fun _ => true) ?_ ?_ 0 (by omega)
  · exact Ev.step (fun k => laws_eqPieceS.l0.eq_2 ..) (Ev.neg (by omega) (Ev.now _))
  · intro i hi ih
    refine Ev.step (fun k => laws_eqPieceS.l0.eq_2 ..) (Ev.pos (by omega) (Ev.pos (by omega) (Ev.pos (by omega) ?_)))
    simp only [wrap_succ i (by omega), laws_eqPiece.f, if_true]
    exact Ev.bs (Ev.pos rfl ih)
theorem szPieceS_eq (l : List LPc) (n : Int) (h0 : 0 ≤ n) (h1 : n ≤ 1048576) (h : l.length ≤ maxLen) : laws_szPieceS.f l n = some (if n - (l.length : Int) < 0 then -1 else n - (l.length : Int)) := by
  unfold maxLen at h
  unfold laws_szPieceS.f
  rw [wrap_id (by omega) (by omega)]
  split <;> rfl
end Go.Proofs.Ytnldmnlfocigaaa.F

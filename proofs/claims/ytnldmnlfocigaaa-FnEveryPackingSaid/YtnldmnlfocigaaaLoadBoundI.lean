/- The least number of boxes that weights and counts ask for: what the program computes. No condition. -/
import Derived.Test.YtnldmnlfocigaaaLoadClass
import Derived.Test.YtnldmnlfocigaaaF39
namespace Go.Proofs.Ytnldmnlfocigaaa.F
open Go.RowKit Go.Proofs.YtnldmnlfocigaaaW.PrintWords Go.Proofs.YtnldmnlfocigaaaW.PrintLast Go.Proofs.Ytnldmnlfocigaaa.Opn
set_option linter.unusedVariables false
set_option linter.unusedSimpArgs false
def wsum (l : List Pc) : Int := l.foldl (fun s x => wrap64 (s + x.f1)) 0
theorem wsum_snoc (l : List Pc) (x : Pc) : wsum (l ++ [x]) = wrap64 (wsum l + x.f1) := by simp [wsum, List.foldl_append]
def share (a b : Int) (l : List Pc) : Int := mx (wrap64 (Int.tdiv (wrap64 ((wrap64 ((wsum l) + a)) - 1)) a)) (wrap64 (Int.tdiv (wrap64 ((wrap64 ((l.length : Int) + b)) - 1)) b))
def accB (a b : Int) (l : List Pc) : Nat → Int
  | 0 => 0
  | i + 1 => wrap64 (accB a b l i + share a b (ofC l (i : Int)))
def BB (a b : Int) (l : List Pc) : Int := if LO a b ∧ PP l then accB a b l 6 else -1
theorem ev_impl_BoxBound (a b : Int) (l : List Pc) (hl : l.length ≤ 1048576) : Ev (fun k => impl_BoxBound.f k a b l) (BB a b l) := by
  unfold impl_BoxBound.f BB
  rw [impl_LimitsOk_eq]
  refine Ev.bs (Ev.ite (fun h1 => Ev.bd (ev_impl_PiecesOk l hl) (Ev.step (fun k => impl_BoxBound.j0.eq_2 ..) (Ev.ite (fun h2 => ?_) (fun h2 => ?_)))) (fun h1 => Ev.step (fun k => impl_BoxBound.j0.eq_2 ..) (Ev.pos rfl ?_)))
  · rw [if_neg (fun h => by rw [decide_eq_true h.2] at h2; simp at h2)]
    exact Ev.now _
  · have hp : PP l := by simpa using h2
    have hlo : LO a b := by simpa using h1
    rw [if_pos ⟨hlo, hp⟩]
    obtain ⟨o1, o2, o3, o4⟩ := hlo
    refine up_state (fun k s i => impl_BoxBound.l0 k l s i a b) 6 (fun i => accB a b l i) _ ?_ ?_ 0 (by omega)
    · exact Ev.step (fun k => impl_BoxBound.l0.eq_2 ..) (Ev.neg (by omega) (Ev.now _))
    · intro i hi ih
      refine Ev.step (fun k => impl_BoxBound.l0.eq_2 ..) (Ev.pos (by omega) ?_)
      rw [ofClass_eq l _ hl]
      refine Ev.bs ?_
      have hlen : (ofC l (i : Int)).length ≤ 1048576 := Nat.le_trans (List.length_filter_le _ _) hl
      have hacc : accB a b l (i + 1) = wrap64 (accB a b l i + share a b (ofC l (i : Int))) := rfl
      rw [hacc] at ih
      generalize ofC l (i : Int) = q at ih hlen
      refine up_state (fun k s j => impl_BoxBound.l1 k l (accB a b l i) (i : Int) s q q (q.length : Int) j a b) q.length (fun j => wsum (q.take j)) _ ?_ ?_ 0 (by omega)
      · refine Ev.step (fun k => impl_BoxBound.l1.eq_2 ..) (Ev.neg (by omega) (Ev.neg (by omega) (Ev.neg (by omega) ?_)))
        simp only [wrap_succ i (by omega), List.take_length]
        exact ih
      · intro j hj ihj
        refine Ev.step (fun k => impl_BoxBound.l1.eq_2 ..) (Ev.pos (by omega) (Ev.pos (by omega) (Ev.pos (by omega) ?_)))
        simp only [rdP_nat, wrap_succ j (by omega)]
        rw [take_snoc q j hj, wsum_snoc] at ihj
        exact ihj
  · rw [if_neg (fun h => h1 (decide_eq_true h.1))]
    exact Ev.now _
end Go.Proofs.Ytnldmnlfocigaaa.F

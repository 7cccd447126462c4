/- What the laws' own functions on lists of numbers do. No condition. -/
import Derived.Test.YtppojihmllmgnaaEvMore
import Derived.Test.YtppojihmllmgnaaF45
import Derived.Test.YtppojihmllmgnaaF46
import Derived.Test.YtppojihmllmgnaaF47
namespace Go.Proofs.Ytppojihmllmgnaa.F
open Go.RowKit Go.Proofs.YtppojihmllmgnaaW.PrintWords Go.Proofs.YtppojihmllmgnaaW.PrintLast Go.Proofs.Ytppojihmllmgnaa.Opn
set_option linter.unusedVariables false
set_option linter.unusedSimpArgs false
theorem ev_eqIntS (l : List Int) (h : l.length ≤ 1048576) : Ev (fun k => laws_eqIntS.f k l l) true := by
  unfold laws_eqIntS.f
  refine Ev.pos rfl ?_
  refine up_loop (fun k i => laws_eqIntS.l0 k l l i) l.length (fun _ => true) ?_ ?_ 0 (by omega)
  · exact Ev.step (fun k => laws_eqIntS.l0.eq_2 ..) (Ev.neg (by omega) (Ev.now _))
  · intro i hi ih
    refine Ev.step (fun k => laws_eqIntS.l0.eq_2 ..) (Ev.pos (by omega) (Ev.pos (by omega) (Ev.pos (by omega) (Ev.pos rfl ?_))))
    simp only [wrap_succ i (by omega)]
    exact ih
def marksI (m n : Nat) : List Int := (List.range n).map (fun j => ((m + j : Nat) : Int))
theorem ev_markIntS (l : List Int) (m : Nat) (h : l.length ≤ 1048576) (hm : m ≤ 1125899906842624) :
    Ev (fun k => laws_markIntS.f k l (m : Int)) (((m + l.length : Nat) : Int), marksI m l.length) := by
  unfold laws_markIntS.f
  have key := up_state (fun k (s : List Int × Nat) i => laws_markIntS.l0 k s.1 (s.2 : Int) i) l.length (fun i => (filled (fun j => ((m + j : Nat) : Int)) l i, m + i))
    (((m + l.length : Nat) : Int), marksI m l.length) ?_ ?_ 0 (by omega)
  · simpa only [filled_zero, Nat.add_zero, Int.ofNat_zero, Int.natCast_zero] using key
  · refine Ev.step (fun k => laws_markIntS.l0.eq_2 ..) (Ev.neg (by simp [filled_length]) (Ev.some_ ?_))
    rw [filled_all]
    rfl
  · intro i hi ih
    refine Ev.step (fun k => laws_markIntS.l0.eq_2 ..) (Ev.pos (by rw [filled_length _ _ _ (by omega)]; omega) (Ev.pos (by omega) ?_))
    simp only [Int.toNat_natCast, wrap_succ i (by omega), wrap_succ (m + i) (by omega)]
    simp only at ih
    rw [← filled_set _ _ i (by omega)] at ih
    exact ih
theorem ev_heldIntS (n m : Nat) (h : n ≤ 1048576) (hm : m ≤ 1125899906842624) : Ev (fun k => laws_heldIntS.f k (marksI m n) (m : Int)) ((m + n : Nat) : Int) := by
  unfold laws_heldIntS.f
  have key := up_state (fun k (s : Nat) i => laws_heldIntS.l0 k (marksI m n) (s : Int) i) n (fun i => m + i) ((m + n : Nat) : Int) ?_ ?_ 0 (by omega)
  · simpa only [Nat.add_zero, Int.natCast_zero] using key
  · exact Ev.step (fun k => laws_heldIntS.l0.eq_2 ..) (Ev.neg (by simp [marksI]) (Ev.some_ rfl))
  · intro i hi ih
    have hg : (marksI m n).getD i 0 = ((m + i : Nat) : Int) := map_range_get _ _ _ hi _
    refine Ev.step (fun k => laws_heldIntS.l0.eq_2 ..) (Ev.pos (by simp [marksI]; omega) (Ev.pos (by omega) (Ev.pos ?_ ?_)))
    · rw [rd_natI, hg]
    · simp only [wrap_succ i (by omega), wrap_succ (m + i) (by omega)]
      exact ih
end Go.Proofs.Ytppojihmllmgnaa.F

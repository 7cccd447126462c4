/- What the laws' own functions on lists of numbers and of bools do: copy, compare, mark, look for the marks. No condition. -/
import Derived.Test.YtnldmnlfocigaaaEvMore
import Derived.Test.YtnldmnlfocigaaaF21
import Derived.Test.YtnldmnlfocigaaaF22
import Derived.Test.YtnldmnlfocigaaaF25
import Derived.Test.YtnldmnlfocigaaaF24
import Derived.Test.YtnldmnlfocigaaaF26
import Derived.Test.YtnldmnlfocigaaaF27
namespace Go.Proofs.Ytnldmnlfocigaaa.F
open Go.RowKit Go.Proofs.YtnldmnlfocigaaaW.PrintWords Go.Proofs.YtnldmnlfocigaaaW.PrintLast Go.Proofs.Ytnldmnlfocigaaa.Opn
set_option linter.unusedVariables false
set_option linter.unusedSimpArgs false
theorem rdB_nat (l : List Bool) (i : Nat) : rdOf false l (i : Int) = l.getD i false := by simp [rdOf]
theorem ev_toIntS (l : List Int) (h : l.length ≤ 1048576) : Ev (fun k => laws_toIntS.f k l) l := by
  unfold laws_toIntS.f
  refine Ev.pos (by omega) (Ev.pos (by simp; omega) ?_)
  have hl : (List.range l.length).map (fun j => l.getD j 0) = l := by simpa using map_range_eq (fun x => x) l 0
  have hf : List.replicate ((l.length : Int)).toNat (0 : Int) = filled (fun j => l.getD j 0) (List.replicate l.length 0) 0 := by rw [filled_zero]; simp
  rw [hf]
  refine up_state (fun k s i => laws_toIntS.l0 k l s i) l.length (fun i => filled (fun j => l.getD j 0) (List.replicate l.length 0) i) _ ?_ ?_ 0 (by omega)
  · refine Ev.step (fun k => laws_toIntS.l0.eq_2 ..) (Ev.neg (by omega) (Ev.some_ ?_))
    have := filled_all (fun j => l.getD j 0) (List.replicate l.length (0 : Int))
    simp only [List.length_replicate] at this
    rw [this, hl]
  · intro i hi ih
    refine Ev.step (fun k => laws_toIntS.l0.eq_2 ..) (Ev.pos (by omega) (Ev.pos (by omega) ?_))
    simp only [rd_natI, Int.toNat_natCast, wrap_succ i (by omega)]
    refine Ev.pos (by rw [filled_length _ _ _ (by simp; omega)]; simp; omega) ?_
    rw [← filled_set _ _ i (by simp; omega)] at ih
    exact ih
theorem ev_eqIntS (l : List Int) (h : l.length ≤ 1048576) : Ev (fun k => laws_eqIntS.f k l l) true := by
  unfold laws_eqIntS.f
  refine Ev.pos rfl ?_
  refine up_loop (fun k i => laws_eqIntS.l0 k l l i) l.length (fun _ => true) ?_ ?_ 0 (by omega)
  · exact Ev.step (fun k => laws_eqIntS.l0.eq_2 ..) (Ev.neg (by omega) (Ev.now _))
  · intro i hi ih
    refine Ev.step (fun k => laws_eqIntS.l0.eq_2 ..) (Ev.pos (by omega) (Ev.pos (by omega) (Ev.pos (by omega) (Ev.pos rfl ?_))))
    simp only [wrap_succ i (by omega)]
    exact ih
theorem ev_eqBoolS (l : List Bool) (h : l.length ≤ 1048576) : Ev (fun k => laws_eqBoolS.f k l l) true := by
  unfold laws_eqBoolS.f
  refine Ev.pos rfl ?_
  refine up_loop (fun k i => laws_eqBoolS.l0 k l l i) l.length (fun _ => true) ?_ ?_ 0 (by omega)
  · exact Ev.step (fun k => laws_eqBoolS.l0.eq_2 ..) (Ev.neg (by omega) (Ev.now _))
  · intro i hi ih
    refine Ev.step (fun k => laws_eqBoolS.l0.eq_2 ..) (Ev.pos (by omega) (Ev.pos (by omega) (Ev.pos (by omega) (Ev.neg (by simp) ?_))))
    simp only [wrap_succ i (by omega)]
    exact ih
theorem ev_markIntS (l : List Int) (m : Nat) (h : l.length ≤ 1048576) (hm : m ≤ 1125899906842624) :
    Ev (fun k => laws_markIntS.f k l (m : Int)) (((m + l.length : Nat) : Int), (List.range l.length).map (fun j => ((m + j : Nat) : Int))) := by
  unfold laws_markIntS.f
  have h0 : laws_markIntS.l0 = fun k s x i => laws_markIntS.l0 k s x i := rfl
  have key := up_state (fun k (s : List Int × Nat) i => laws_markIntS.l0 k s.1 (s.2 : Int) i) l.length (fun i => (filled (fun j => ((m + j : Nat) : Int)) l i, m + i))
    (((m + l.length : Nat) : Int), (List.range l.length).map (fun j => ((m + j : Nat) : Int))) ?_ ?_ 0 (by omega)
  · simpa only [filled_zero, Nat.add_zero, Int.ofNat_zero, Int.natCast_zero] using key
  · refine Ev.step (fun k => laws_markIntS.l0.eq_2 ..) (Ev.neg (by simp [filled_length]) (Ev.some_ ?_))
    rw [filled_all]
  · intro i hi ih
    refine Ev.step (fun k => laws_markIntS.l0.eq_2 ..) (Ev.pos (by rw [filled_length _ _ _ (by omega)]; omega) (Ev.pos (by omega) ?_))
    simp only [Int.toNat_natCast, wrap_succ i (by omega), wrap_succ (m + i) (by omega)]
    simp only at ih
    rw [← filled_set _ _ i (by omega)] at ih
    exact ih
theorem ev_markBoolS (l : List Bool) (m : Nat) (h : l.length ≤ 1048576) (hm : m ≤ 1125899906842624) :
    Ev (fun k => laws_markBoolS.f k l (m : Int)) (((m + l.length : Nat) : Int), (List.range l.length).map (fun j => (Int.tmod ((m + j : Nat) : Int) 3 == 0))) := by
  unfold laws_markBoolS.f
  have key := up_state (fun k (s : List Bool × Nat) i => laws_markBoolS.l0 k s.1 (s.2 : Int) i) l.length (fun i => (filled (fun j => (Int.tmod ((m + j : Nat) : Int) 3 == 0)) l i, m + i))
    (((m + l.length : Nat) : Int), (List.range l.length).map (fun j => (Int.tmod ((m + j : Nat) : Int) 3 == 0))) ?_ ?_ 0 (by omega)
  · simpa only [filled_zero, Nat.add_zero, Int.ofNat_zero, Int.natCast_zero] using key
  · refine Ev.step (fun k => laws_markBoolS.l0.eq_2 ..) (Ev.neg (by simp [filled_length]) (Ev.some_ ?_))
    rw [filled_all]
  · intro i hi ih
    refine Ev.step (fun k => laws_markBoolS.l0.eq_2 ..) (Ev.pos (by rw [filled_length _ _ _ (by omega)]; omega) (Ev.pos (by omega) ?_))
    simp only [Int.toNat_natCast, wrap_succ i (by omega), wrap_succ (m + i) (by omega)]
    simp only at ih
    rw [← filled_set _ _ i (by omega)] at ih
    exact ih
theorem ev_heldBoolS (n m : Nat) (h : n ≤ 1048576) (hm : m ≤ 1125899906842624) :
    Ev (fun k => laws_heldBoolS.f k ((List.range n).map (fun j => (Int.tmod ((m + j : Nat) : Int) 3 == 0))) (m : Int)) ((m + n : Nat) : Int) := by
  unfold laws_heldBoolS.f
  have key := up_state (fun k (s : Nat) i => laws_heldBoolS.l0 k ((List.range n).map (fun j => (Int.tmod ((m + j : Nat) : Int) 3 == 0))) (s : Int) i) n (fun i => m + i)
    ((m + n : Nat) : Int) ?_ ?_ 0 (by omega)
  · simpa only [Nat.add_zero, Int.natCast_zero] using key
  · exact Ev.step (fun k => laws_heldBoolS.l0.eq_2 ..) (Ev.neg (by simp) (Ev.some_ rfl))
  · intro i hi ih
    refine Ev.step (fun k => laws_heldBoolS.l0.eq_2 ..) (Ev.pos (by simp; omega) (Ev.pos (by omega) (Ev.neg ?_ ?_)))
    · rw [rdB_nat, map_range_get _ _ _ hi]; simp
    · simp only [wrap_succ i (by omega), wrap_succ (m + i) (by omega)]
      exact ih
end Go.Proofs.Ytnldmnlfocigaaa.F

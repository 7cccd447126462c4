/- The least number of boxes that weights and counts ask for: what the program and the reference compute. No condition. -/
import Derived.Test.YtnldmnlfocigaaaPieceHarness
import Derived.Test.YtnldmnlfocigaaaF39
import Derived.Test.YtnldmnlfocigaaaF37
namespace Go.Proofs.Ytnldmnlfocigaaa.F
open Go.RowKit Go.Proofs.YtnldmnlfocigaaaW.PrintWords Go.Proofs.YtnldmnlfocigaaaW.PrintLast Go.Proofs.Ytnldmnlfocigaaa.Opn
set_option linter.unusedVariables false
set_option linter.unusedSimpArgs false
def LO (a b : Int) : Prop := 60 ≤ a ∧ a ≤ 2000 ∧ 1 ≤ b ∧ b ≤ 40
instance (a b : Int) : Decidable (LO a b) := by unfold LO; infer_instance
theorem impl_LimitsOk_eq (a b : Int) : impl_LimitsOk.f a b = some (decide (LO a b)) := by
  unfold impl_LimitsOk.f LO
  by_cases h1 : a ≥ 60
  · by_cases h2 : a ≤ 2000
    · by_cases h3 : b ≥ 1
      · simp [h1, h2, h3]
      · simp [h1, h2, h3]
    · simp [h1, h2]
  · simp [h1]
theorem spec_LimitsOk_eq (a b : Int) : spec_LimitsOk.f a b = some (decide (LO a b)) := by
  unfold spec_LimitsOk.f LO
  simp only [l01In_eqB, Option.bind_some]
  by_cases h : 60 ≤ a ∧ a ≤ 2000
  · rw [if_pos (decide_eq_true h)]
    simp [h.1, h.2]
  · rw [if_neg (by simpa using h)]
    simp only [Option.some.injEq]
    symm
    exact decide_eq_false (fun h' => h ⟨h'.1, h'.2.1⟩)
/-- The pieces of a class. -/
def ofC (l : List Pc) (c : Int) : List Pc := l.filter (fun x => x.f2 == c)
theorem ofClass_eq (l : List Pc) (c : Int) (h : l.length ≤ 1048576) : impl_ofClass.f l c = some (ofC l c) := by
  unfold impl_ofClass.f slices_Clone_impl_Piece.f impl_ofClass_1__slices_DeleteFunc_impl_Piece.f
  simp only [Option.bind_some, List.length_nil, Nat.zero_add, List.nil_append]
  rw [if_pos (by omega)]
  simp only [Option.bind_some, Option.some.injEq, ofC]
  congr 1
  funext x
  simp [bne]
def wsum (l : List Pc) : Int := l.foldl (fun s x => wrap64 (s + x.f1)) 0
theorem wsum_snoc (l : List Pc) (x : Pc) : wsum (l ++ [x]) = wrap64 (wsum l + x.f1) := by simp [wsum, List.foldl_append]
def share (a b : Int) (l : List Pc) : Int := mx (wrap64 (Int.tdiv (wrap64 ((wrap64 ((wsum l) + a)) - 1)) a)) (wrap64 (Int.tdiv (wrap64 ((wrap64 ((l.length : Int) + b)) - 1)) b))
def accB (a b : Int) (l : List Pc) : Nat → Int
  | 0 => 0
  | i + 1 => wrap64 (accB a b l i + share a b (ofC l (i : Int)))
def BB (a b : Int) (l : List Pc) : Int := if LO a b ∧ PP l then accB a b l 6 else -1
theorem take_snoc (l : List Pc) (i : Nat) (hi : i < l.length) : l.take (i + 1) = l.take i ++ [l.getD i z80] := by
  rw [List.take_succ_eq_append_getElem hi, List.getD_eq_getElem?_getD, List.getElem?_eq_getElem hi]; rfl
theorem ev_impl_BoxBound (a b : Int) (l : List Pc) (hl : l.length ≤ 1048576) : Ev (fun k => impl_BoxBound.f k a b l) (BB a b l) := by
  unfold impl_BoxBound.f BB
  rw [impl_LimitsOk_eq]
  refine Ev.bs (Ev.ite (fun h1 => Ev.bd (ev_impl_PiecesOk l hl) (Ev.step (fun k => impl_BoxBound.j0.eq_2 ..) (Ev.ite (fun h2 => ?_) (fun h2 => ?_)))) (fun h1 => Ev.step (fun k => impl_BoxBound.j0.eq_2 ..) (Ev.pos rfl ?_)))
  · rw [if_neg (fun h => by rw [decide_eq_true h.2] at h2; simp at h2)]
    exact Ev.now _
  · have hp : PP l := by simpa using h2
    have hlo : LO a b := by simpa using h1
    rw [if_pos ⟨hlo, hp⟩]
    obtain ⟨o1, o2, o3, o4⟩ := hlo
    refine up_state (fun k s i => impl_BoxBound.l0 k l s i a b) 6 (fun i => accB a b l i) _ ?_ ?_ 0 (by omega)
    · exact Ev.step (fun k => impl_BoxBound.l0.eq_2 ..) (Ev.neg (by omega) (Ev.now _))
    · intro i hi ih
      refine Ev.step (fun k => impl_BoxBound.l0.eq_2 ..) (Ev.pos (by omega) ?_)
      rw [ofClass_eq l _ hl]
      refine Ev.bs ?_
      have hlen : (ofC l (i : Int)).length ≤ 1048576 := Nat.le_trans (List.length_filter_le _ _) hl
      have hacc : accB a b l (i + 1) = wrap64 (accB a b l i + share a b (ofC l (i : Int))) := rfl
      rw [hacc] at ih
      generalize ofC l (i : Int) = q at ih hlen
      refine up_state (fun k s j => impl_BoxBound.l1 k l (accB a b l i) (i : Int) s q q (q.length : Int) j a b) q.length (fun j => wsum (q.take j)) _ ?_ ?_ 0 (by omega)
      · refine Ev.step (fun k => impl_BoxBound.l1.eq_2 ..) (Ev.neg (by omega) (Ev.neg (by omega) (Ev.neg (by omega) ?_)))
        simp only [wrap_succ i (by omega), List.take_length]
        exact ih
      · intro j hj ihj
        refine Ev.step (fun k => impl_BoxBound.l1.eq_2 ..) (Ev.pos (by omega) (Ev.pos (by omega) (Ev.pos (by omega) ?_)))
        simp only [rdP_nat, wrap_succ j (by omega)]
        rw [take_snoc q j hj, wsum_snoc] at ihj
        exact ihj
  · rw [if_neg (fun h => h1 (decide_eq_true h.1))]
    exact Ev.now _
theorem ev_spec_BoxBound (a b : Int) (l : List Pc) (hl : l.length ≤ 1048576) : Ev (fun k => spec_BoxBound.f k a b l) (BB a b l) := by
  unfold spec_BoxBound.f BB
  rw [spec_LimitsOk_eq]
  refine Ev.bs (Ev.ite (fun h1 => Ev.bd (ev_spec_PiecesOk l hl) (Ev.step (fun k => spec_BoxBound.j0.eq_2 ..) (Ev.ite (fun h2 => ?_) (fun h2 => ?_)))) (fun h1 => Ev.step (fun k => spec_BoxBound.j0.eq_2 ..) (Ev.pos rfl ?_)))
  · rw [if_neg (fun h => by rw [decide_eq_true h.2] at h2; simp at h2)]
    exact Ev.now _
  · have hp : PP l := by simpa using h2
    have hlo : LO a b := by simpa using h1
    rw [if_pos ⟨hlo, hp⟩]
    obtain ⟨o1, o2, o3, o4⟩ := hlo
    refine up_state (fun k s i => spec_BoxBound.l0 k l s i a b) 6 (fun i => accB a b l i) _ ?_ ?_ 0 (by omega)
    · exact Ev.step (fun k => spec_BoxBound.l0.eq_2 ..) (Ev.neg (by omega) (Ev.now _))
    · intro i hi ih
      refine Ev.step (fun k => spec_BoxBound.l0.eq_2 ..) (Ev.pos (by omega) ?_)
      have hacc : accB a b l (i + 1) = wrap64 (accB a b l i + share a b (ofC l (i : Int))) := rfl
      rw [hacc] at ih
      refine up_state (fun k (s : Int × Nat) j => spec_BoxBound.l1 k l (accB a b l i) (i : Int) s.1 (s.2 : Int) j a b) l.length (fun j => (wsum (ofC (l.take j) (i : Int)), (ofC (l.take j) (i : Int)).length)) _ ?_ ?_ 0 (by omega)
      · refine Ev.step (fun k => spec_BoxBound.l1.eq_2 ..) (Ev.neg (by omega) (Ev.neg (by omega) (Ev.neg (by omega) ?_)))
        simp only [wrap_succ i (by omega), List.take_length]
        exact ih
      · intro j hj ihj
        have hlen : (ofC (l.take j) (i : Int)).length ≤ j := Nat.le_trans (List.length_filter_le _ _) (by rw [List.length_take]; omega)
        refine Ev.step (fun k => spec_BoxBound.l1.eq_2 ..) (Ev.pos (by omega) (Ev.pos (by omega) ?_))
        simp only [rdP_nat, wrap_succ j (by omega), wrap_succ (ofC (l.take j) (i : Int)).length (by omega)]
        have hs : ofC (l.take (j + 1)) (i : Int) = ofC (l.take j) (i : Int) ++ ofC [l.getD j z80] (i : Int) := by
          rw [take_snoc l j hj]; simp [ofC]
        rw [hs] at ihj
        refine Ev.ite (fun c => ?_) (fun c => ?_)
        · have h1 : ofC [l.getD j z80] (i : Int) = [l.getD j z80] := by unfold ofC; rw [List.filter_cons, if_pos (beq_iff_eq.2 c), List.filter_nil]
          rw [h1, wsum_snoc, List.length_append] at ihj
          exact ihj
        · have h1 : ofC [l.getD j z80] (i : Int) = [] := by unfold ofC; rw [List.filter_cons, if_neg (fun h => c (beq_iff_eq.1 h)), List.filter_nil]
          rw [h1, List.append_nil] at ihj
          exact ihj
  · rw [if_neg (fun h => h1 (decide_eq_true h.1))]
    exact Ev.now _
end Go.Proofs.Ytnldmnlfocigaaa.F

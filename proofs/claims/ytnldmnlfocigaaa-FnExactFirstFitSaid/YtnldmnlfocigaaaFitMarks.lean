/- Marks in lists of boxes and of pieces. No condition. -/
import Derived.Test.YtnldmnlfocigaaaBoxHarness
import Derived.Test.YtnldmnlfocigaaaF47
import Derived.Test.YtnldmnlfocigaaaF48
import Derived.Test.YtnldmnlfocigaaaF49
namespace Go.Proofs.Ytnldmnlfocigaaa.F
open Go.RowKit Go.Proofs.YtnldmnlfocigaaaW.PrintWords Go.Proofs.YtnldmnlfocigaaaW.PrintLast Go.Proofs.Ytnldmnlfocigaaa.Opn
set_option linter.unusedVariables false
set_option linter.unusedSimpArgs false
def marksI (m n : Nat) : List Int := (List.range n).map (fun j => ((m + j : Nat) : Int))
theorem ev_markIntS' (l : List Int) (m : Nat) (h : l.length ≤ 1048576) (hm : m ≤ 1125899906842624) :
    Ev (fun k => laws_markIntS.f k l (m : Int)) (((m + l.length : Nat) : Int), marksI m l.length) := by
  unfold laws_markIntS.f
  have key := up_state (fun k (s : List Int × Nat) i => laws_markIntS.l0 k s.1 (s.2 : Int) i) l.length (fun i => (filled (fun j => ((m + j : Nat) : Int)) l i, m + i))
    (((m + l.length : Nat) : Int), marksI m l.length) ?_ ?_ 0 (by omega)
  · simpa only [filled_zero, Nat.add_zero, Int.ofNat_zero, Int.natCast_zero] using key
  · refine Ev.step (fun k => laws_markIntS.l0.eq_2 ..) (Ev.neg (by simp [filled_length]) (Ev.some_ ?_))
    rw [filled_all]
    rfl
  · intro i hi ih
    refine Ev.step (fun k => laws_markIntS.l0.eq_2 ..) (Ev.pos (by rw [filled_length _ _ _ (by omega)]; omega) (Ev.pos (by omega) ?_))
    simp only [Int.toNat_natCast, wrap_succ i (by omega), wrap_succ (m + i) (by omega)]
    simp only at ih
    rw [← filled_set _ _ i (by omega)] at ih
    exact ih
theorem ev_heldIntS' (n m : Nat) (h : n ≤ 1048576) (hm : m ≤ 1125899906842624) : Ev (fun k => laws_heldIntS.f k (marksI m n) (m : Int)) ((m + n : Nat) : Int) := by
  unfold laws_heldIntS.f
  have key := up_state (fun k (s : Nat) i => laws_heldIntS.l0 k (marksI m n) (s : Int) i) n (fun i => m + i) ((m + n : Nat) : Int) ?_ ?_ 0 (by omega)
  · simpa only [Nat.add_zero, Int.natCast_zero] using key
  · exact Ev.step (fun k => laws_heldIntS.l0.eq_2 ..) (Ev.neg (by simp [marksI]) (Ev.some_ rfl))
  · intro i hi ih
    have hg : (marksI m n).getD i 0 = ((m + i : Nat) : Int) := map_range_get _ _ _ hi _
    refine Ev.step (fun k => laws_heldIntS.l0.eq_2 ..) (Ev.pos (by simp [marksI]; omega) (Ev.pos (by omega) (Ev.pos ?_ ?_)))
    · rw [rd_natI, hg]
    · simp only [wrap_succ i (by omega), wrap_succ (m + i) (by omega)]
      exact ih
def cntB (g : List Bx) : Nat → Nat
  | 0 => 1
  | i + 1 => cntB g i + 2 + (g.getD i z62).f2.length
theorem cntB_le (g : List Bx) (N : Nat) (h : ∀ x ∈ g, x.f2.length ≤ N) : ∀ i, i ≤ g.length → cntB g i ≤ 1 + i * (N + 2)
  | 0, _ => by simp [cntB]
  | i + 1, hi => by
    have h1 := cntB_le g N h i (by omega)
    have h2 := h _ (getD_mem g z62 i (by omega))
    unfold cntB
    rw [Nat.add_mul]
    omega
def markB (g : List Bx) (j : Nat) : Bx := ⟨((cntB g j : Nat) : Int), ((cntB g j + 1 : Nat) : Int), marksI (cntB g j + 2) (g.getD j z62).f2.length⟩
theorem ev_markBoxS (g : List Bx) (hg : g.length ≤ 40) (h : ∀ x ∈ g, x.f2.length ≤ 40) : Ev (fun k => laws_markBoxS.f k g 1) (((cntB g g.length : Nat) : Int), (List.range g.length).map (markB g)) := by
  unfold laws_markBoxS.f
  have key := up_state (fun k (s : List Bx × Nat) i => laws_markBoxS.l0 k s.1 (s.2 : Int) i) g.length (fun i => (filled (markB g) g i, cntB g i)) (((cntB g g.length : Nat) : Int), (List.range g.length).map (markB g)) ?_ ?_ 0 (by omega)
  · rw [filled_zero] at key
    exact key
  · refine Ev.step (fun k => laws_markBoxS.l0.eq_2 ..) (Ev.neg (by simp [filled_length]) (Ev.some_ ?_))
    rw [filled_all]
  · intro i hi ih
    have hc := cntB_le g 40 h i (by omega)
    have hc2 : i * (40 + 2) ≤ 40 * 42 := Nat.mul_le_mul (by omega) (by omega)
    have hx := h _ (getD_mem g z62 i hi)
    refine Ev.step (fun k => laws_markBoxS.l0.eq_2 ..) (Ev.pos (by rw [filled_length _ _ _ (by omega)]; omega) (Ev.pos (by omega) ?_))
    simp only [rdBx_nat, Int.toNat_natCast, filled_get _ g i hi, wrap_succ i (by omega), wrap_succ (cntB g i) (by omega), wrap_succ (cntB g i + 1) (by omega)]
    refine Ev.bd (ev_markIntS' _ (cntB g i + 2) (by omega) (by omega)) ?_
    simp only at ih
    rw [← filled_set _ _ i (by omega)] at ih
    exact ih
theorem ev_heldBoxS (g : List Bx) (hg : g.length ≤ 40) (h : ∀ x ∈ g, x.f2.length ≤ 40) : Ev (fun k => laws_heldBoxS.f k ((List.range g.length).map (markB g)) 1) ((cntB g g.length : Nat) : Int) := by
  unfold laws_heldBoxS.f
  refine up_state (fun k (s : Nat) i => laws_heldBoxS.l0 k ((List.range g.length).map (markB g)) (s : Int) i) g.length (fun i => cntB g i) ((cntB g g.length : Nat) : Int) ?_ ?_ 0 (by omega)
  · exact Ev.step (fun k => laws_heldBoxS.l0.eq_2 ..) (Ev.neg (by simp) (Ev.some_ rfl))
  · intro i hi ih
    have hc := cntB_le g 40 h i (by omega)
    have hc2 : i * (40 + 2) ≤ 40 * 42 := Nat.mul_le_mul (by omega) (by omega)
    have hx := h _ (getD_mem g z62 i hi)
    have hgt : ((List.range g.length).map (markB g)).getD i z62 = markB g i := map_range_get _ _ _ hi _
    refine Ev.step (fun k => laws_heldBoxS.l0.eq_2 ..) (Ev.pos (by simp; omega) (Ev.pos (by omega) ?_))
    simp only [rdBx_nat, hgt, wrap_succ i (by omega), wrap_succ (cntB g i) (by omega), wrap_succ (cntB g i + 1) (by omega)]
    refine Ev.pos rfl (Ev.pos rfl (Ev.bd (ev_heldIntS' _ (cntB g i + 2) (by omega) (by omega)) (Ev.neg (by omega) ?_)))
    exact ih
theorem ev_markPieceS (l : List Pc) (hl : l.length ≤ 1048576) : ∃ p2, Ev (fun k => laws_markPieceS.f k l 1) (((1 + 3 * l.length : Nat) : Int), p2) := by
  unfold laws_markPieceS.f
  have key : ∀ d i (row : List Pc), row.length - i = d → i ≤ row.length → row.length = l.length → ∃ p2, Ev (fun k => laws_markPieceS.l0 k row ((1 + 3 * i : Nat) : Int) (i : Int)) (((1 + 3 * l.length : Nat) : Int), p2) := by
    intro d
    induction d with
    | zero =>
      intro i row hd hi hr
      obtain rfl : i = l.length := by omega
      exact ⟨row, Ev.step (fun k => laws_markPieceS.l0.eq_2 ..) (Ev.neg (by omega) (Ev.now _))⟩
    | succ d ih =>
      intro i row hd hi hr
      obtain ⟨p2, e⟩ := ih (i + 1) (((row.set i ⟨((1 + 3 * i : Nat) : Int), (rd_T80 row (i : Int)).f1, (rd_T80 row (i : Int)).f2⟩).set i ⟨(rd_T80 (row.set i ⟨((1 + 3 * i : Nat) : Int), (rd_T80 row (i : Int)).f1, (rd_T80 row (i : Int)).f2⟩) (i : Int)).f0, ((1 + 3 * i + 1 : Nat) : Int), (rd_T80 (row.set i ⟨((1 + 3 * i : Nat) : Int), (rd_T80 row (i : Int)).f1, (rd_T80 row (i : Int)).f2⟩) (i : Int)).f2⟩).set i ⟨(rd_T80 ((row.set i ⟨((1 + 3 * i : Nat) : Int), (rd_T80 row (i : Int)).f1, (rd_T80 row (i : Int)).f2⟩).set i ⟨(rd_T80 (row.set i ⟨((1 + 3 * i : Nat) : Int), (rd_T80 row (i : Int)).f1, (rd_T80 row (i : Int)).f2⟩) (i : Int)).f0, ((1 + 3 * i + 1 : Nat) : Int), (rd_T80 (row.set i ⟨((1 + 3 * i : Nat) : Int), (rd_T80 row (i : Int)).f1, (rd_T80 row (i : Int)).f2⟩) (i : Int)).f2⟩) (i : Int)).f0, (rd_T80 ((row.set i ⟨((1 + 3 * i : Nat) : Int), (rd_T80 row (i : Int)).f1, (rd_T80 row (i : Int)).f2⟩).set i ⟨(rd_T80 (row.set i ⟨((1 + 3 * i : Nat) : Int), (rd_T80 row (i : Int)).f1, (rd_T80 row (i : Int)).f2⟩) (i : Int)).f0, ((1 + 3 * i + 1 : Nat) : Int), (rd_T80 (row.set i ⟨((1 + 3 * i : Nat) : Int), (rd_T80 row (i : Int)).f1, (rd_T80 row (i : Int)).f2⟩) (i : Int)).f2⟩) (i : Int)).f1, ((1 + 3 * i + 2 : Nat) : Int)⟩) (by simp only [List.length_set]; omega) (by simp only [List.length_set]; omega) (by simp only [List.length_set]; exact hr)
      refine ⟨p2, Ev.step (fun k => laws_markPieceS.l0.eq_2 ..) (Ev.pos (by omega) (Ev.pos (by omega) (Ev.bs (Ev.bs ?_))))⟩
      simp only [Int.toNat_natCast, wrap_succ i (by omega), wrap_succ (1 + 3 * i) (by omega), wrap_succ (1 + 3 * i + 1) (by omega), wrap_succ (1 + 3 * i + 1 + 1) (by omega)]
      rw [show 1 + 3 * (i + 1) = 1 + 3 * i + 1 + 1 + 1 by omega] at e
      exact e
  obtain ⟨p2, e⟩ := key _ 0 l rfl (by omega) rfl
  exact ⟨p2, e⟩
end Go.Proofs.Ytnldmnlfocigaaa.F

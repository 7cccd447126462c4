/- Marks in lists of notes, and the note with a number. No condition. -/
import Derived.Test.YtppojihmllmgnaaNoteHarness
import Derived.Test.YtppojihmllmgnaaF40
import Derived.Test.YtppojihmllmgnaaF41
import Derived.Test.YtppojihmllmgnaaF70
namespace Go.Proofs.Ytppojihmllmgnaa.F
open Go.RowKit Go.Proofs.YtppojihmllmgnaaW.PrintWords Go.Proofs.YtppojihmllmgnaaW.PrintLast Go.Proofs.Ytppojihmllmgnaa.Opn
set_option linter.unusedVariables false
set_option linter.unusedSimpArgs false
def mkN (m : Nat) : Nt := ⟨((m : Nat) : Int), ((m + 1 : Nat) : Int), ((m + 2 : Nat) : Int), ((m + 3 : Nat) : Int), ((m + 4 : Nat) : Int)⟩
def marks (m n : Nat) : List Nt := (List.range n).map (fun j => mkN (m + 5 * j))
theorem wraps (m : Nat) (h : m ≤ 1125899906842624) : wrap64 ((m : Int) + 1) = ((m + 1 : Nat) : Int) ∧ wrap64 (((m + 1 : Nat) : Int) + 1) = ((m + 2 : Nat) : Int) ∧ wrap64 (((m + 2 : Nat) : Int) + 1) = ((m + 3 : Nat) : Int) ∧ wrap64 (((m + 3 : Nat) : Int) + 1) = ((m + 4 : Nat) : Int) ∧ wrap64 (((m + 4 : Nat) : Int) + 1) = ((m + 5 : Nat) : Int) :=
  ⟨wrap_succ _ (by omega), wrap_succ _ (by omega), wrap_succ _ (by omega), wrap_succ _ (by omega), wrap_succ _ (by omega)⟩
theorem ev_markNoteS (l : List Nt) (m : Nat) (h : l.length ≤ 1048576) (hm : m ≤ 1099511627776) :
    Ev (fun k => laws_markNoteS.f k l (m : Int)) (((m + 5 * l.length : Nat) : Int), marks m l.length) := by
  unfold laws_markNoteS.f
  have key := up_state (fun k (s : List Nt × Nat) i => laws_markNoteS.l0 k s.1 (s.2 : Int) i) l.length (fun i => (filled (fun j => mkN (m + 5 * j)) l i, m + 5 * i))
    (((m + 5 * l.length : Nat) : Int), marks m l.length) ?_ ?_ 0 (by omega)
  · simpa only [filled_zero, Nat.mul_zero, Nat.add_zero, Int.natCast_zero] using key
  · refine Ev.step (fun k => laws_markNoteS.l0.eq_2 ..) (Ev.neg (by simp [filled_length]) (Ev.some_ ?_))
    rw [filled_all]
    rfl
  · intro i hi ih
    have hlen : (filled (fun j => mkN (m + 5 * j)) l i).length = l.length := filled_length _ _ _ (by omega)
    obtain ⟨w1, w2, w3, w4, w5⟩ := wraps (m + 5 * i) (by omega)
    refine Ev.step (fun k => laws_markNoteS.l0.eq_2 ..) (Ev.pos (by rw [hlen]; omega) (Ev.pos (by omega) (Ev.bs (Ev.bs (Ev.bs (Ev.bs ?_))))))
    simp only at ih
    rw [← filled_set _ _ i (by omega), show m + 5 * (i + 1) = m + 5 * i + 5 by omega] at ih
    generalize filled (fun j => mkN (m + 5 * j)) l i = s at ih hlen
    have hg : ∀ x : Nt, (s.set i x).getD i z25 = x := fun x => getD_set_self _ _ _ _ (by omega)
    simp only [w1, w2, w3, w4, w5, wrap_succ i (by omega), Int.toNat_natCast, rd_nat, hg, List.set_set]
    exact ih
theorem ev_heldNoteS (n m : Nat) (h : n ≤ 1048576) (hm : m ≤ 1099511627776) : Ev (fun k => laws_heldNoteS.f k (marks m n) (m : Int)) ((m + 5 * n : Nat) : Int) := by
  unfold laws_heldNoteS.f
  have key := up_state (fun k (s : Nat) i => laws_heldNoteS.l0 k (marks m n) (s : Int) i) n (fun i => m + 5 * i) ((m + 5 * n : Nat) : Int) ?_ ?_ 0 (by omega)
  · simpa only [Nat.mul_zero, Nat.add_zero, Int.natCast_zero] using key
  · exact Ev.step (fun k => laws_heldNoteS.l0.eq_2 ..) (Ev.neg (by simp [marks]) (Ev.some_ rfl))
  · intro i hi ih
    obtain ⟨w1, w2, w3, w4, w5⟩ := wraps (m + 5 * i) (by omega)
    have hg : (marks m n).getD i z25 = mkN (m + 5 * i) := map_range_get _ _ _ hi _
    rw [show m + 5 * (i + 1) = m + 5 * i + 5 by omega] at ih
    refine Ev.step (fun k => laws_heldNoteS.l0.eq_2 ..) (Ev.pos (by simp [marks]; omega) (Ev.pos (by omega) ?_))
    simp only [rd_nat, hg, w1, w2, w3, w4, w5, wrap_succ i (by omega)]
    exact Ev.pos rfl (Ev.pos rfl (Ev.pos rfl (Ev.pos rfl (Ev.pos rfl ih))))
theorem notesOk_len {l : List Nt} (h : notesOk l = true) : l.length ≤ 60 := by
  unfold notesOk at h
  simp only [Bool.and_eq_true, decide_eq_true_eq] at h
  exact h.1
theorem notesOk_get {l : List Nt} (h : notesOk l = true) (j : Nat) (hj : j < l.length) : noteOk (l.getD j z25) = true ∧ (0 < j → (l.getD (j - 1) z25).f0 < (l.getD j z25).f0) := by
  unfold notesOk okFrom at h
  simp only [Bool.and_eq_true, decide_eq_true_eq, List.all_eq_true, List.mem_range', Nat.sub_zero] at h
  have := h.2 j ⟨j, by omega, by omega⟩
  simp only [Bool.or_eq_true, beq_iff_eq, decide_eq_true_eq] at this
  exact ⟨this.1, fun h0 => this.2.resolve_left (by omega)⟩
theorem noteOk_f0 {n : Nt} (h : noteOk n = true) : 1 ≤ n.f0 ∧ n.f0 ≤ 10000 := by
  unfold noteOk at h
  simp only [Bool.and_eq_true] at h
  exact inB_true.1 h.1
def tup (n : Nt) : Int × Int × Int × Int × Int := (n.f0, n.f1, n.f2, n.f3, n.f4)
def at8 (l : List Nt) (s : Int) : Nt := (l.find? (fun n => n.f0 == s)).getD ⟨0, 0, 0, 0, 0⟩
theorem ev_l08At (l : List Nt) (s : Int) (hl : l.length ≤ 1048576) : Ev (fun k => spec_l08At.f k l s) (tup (at8 l s)) := by
  unfold spec_l08At.f
  have key := up_loop (fun k i => spec_l08At.l0 k l s i) l.length (fun i => tup (at8 (l.drop i) s)) ?_ ?_ 0 (by omega)
  · simpa only [List.drop_zero, Int.natCast_zero] using key
  · refine Ev.step (fun k => spec_l08At.l0.eq_2 ..) (Ev.neg (by omega) (Ev.some_ ?_))
    simp [at8, tup]
  · intro i hi ih
    refine Ev.step (fun k => spec_l08At.l0.eq_2 ..) (Ev.pos (by omega) (Ev.pos (by omega) ?_))
    simp only [rd_nat, wrap_succ i (by omega)]
    have hd : l.drop i = l.getD i z25 :: l.drop (i + 1) := by
      rw [List.drop_eq_getElem_cons hi, List.getD_eq_getElem?_getD, List.getElem?_eq_getElem hi]; rfl
    refine Ev.ite (fun c => Ev.some_ ?_) (fun c => ?_)
    · rw [hd]
      simp only [at8, List.find?_cons]
      rw [show ((l.getD i z25).f0 == s) = true from beq_iff_eq.2 c]
      rfl
    · rw [hd]
      simp only [at8, List.find?_cons]
      rw [show ((l.getD i z25).f0 == s) = false from beq_eq_false_iff_ne.2 c]
      exact ih
theorem at8_zero {l : List Nt} (h : notesOk l = true) (s : Int) : ((at8 l s).f0 = 0) ↔ l.any (fun y => y.f0 == s) = false := by
  unfold at8
  cases hf : l.find? (fun n => n.f0 == s) with
  | none =>
    rw [List.find?_eq_none] at hf
    simp only [Option.getD_none, true_iff]
    exact List.any_eq_false.2 hf
  | some n =>
    have hm := List.mem_of_find?_eq_some hf
    have hp := List.find?_some hf
    simp only [Option.getD_some]
    obtain ⟨j, hj, rfl⟩ := List.getElem_of_mem hm
    have := (noteOk_f0 ((notesOk_get h j hj).1)).1
    rw [List.getD_eq_getElem?_getD, List.getElem?_eq_getElem hj] at this
    simp only [Option.getD_some] at this
    constructor
    · intro h0; omega
    · intro h0
      rw [List.any_eq_false] at h0
      exact absurd hp (h0 _ hm)
end Go.Proofs.Ytppojihmllmgnaa.F

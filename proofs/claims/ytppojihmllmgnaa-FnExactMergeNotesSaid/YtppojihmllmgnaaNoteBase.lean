/- What the functions on single notes and lists of notes compute: plain lemmas. No condition. -/
import Derived.Test.YtppojihmllmgnaaEvMore
import Derived.Test.YtppojihmllmgnaaF23
import Derived.Test.YtppojihmllmgnaaF25
namespace Go.Proofs.Ytppojihmllmgnaa.F
open Go.RowKit Go.Proofs.YtppojihmllmgnaaW.PrintWords Go.Proofs.YtppojihmllmgnaaW.PrintLast Go.Proofs.Ytppojihmllmgnaa.Opn
set_option linter.unusedVariables false
set_option linter.unusedSimpArgs false
abbrev Nt := S25
def inB (a b c : Int) : Bool := decide (b ≤ a) && decide (a ≤ c)
theorem inB_true {a b c : Int} : inB a b c = true ↔ b ≤ a ∧ a ≤ c := by simp [inB]
theorem inB_false {a b c : Int} : inB a b c = false ↔ ¬ (b ≤ a ∧ a ≤ c) := by rw [← inB_true]; simp
def noteOk (n : Nt) : Bool := inB n.f0 1 10000 && (inB n.f4 1 20 &&
  (if n.f1 = 1 then inB n.f2 1 1000 && inB n.f3 1 1000 else if n.f1 = 2 then inB n.f2 1 1000 && n.f3 == 0 else if n.f1 = 3 then inB n.f2 1 1000 && n.f3 == 0
    else if n.f1 = 4 then n.f2 == 0 && inB n.f3 1 1000 else false))
theorem l01In_eq (a b c : Int) : spec_l01In.f a b c = some (inB a b c) := by
  unfold spec_l01In.f inB
  by_cases h : a ≥ b <;> simp [h]
theorem isFrom1_eq (a c : Int) : impl_isFrom1.f a c = some (inB a 1 c) := by
  unfold impl_isFrom1.f inB
  by_cases h : a ≥ 1 <;> simp [h]

theorem spec_NoteOk_eq (n : Nt) (k : Nat) : spec_NoteOk.f (k + 2) n.f0 n.f1 n.f2 n.f3 n.f4 = some (noteOk n) := by
  obtain ⟨a, b, c, d, e⟩ := n
  simp only [spec_NoteOk.f, spec_NoteOk.j0, spec_NoteOk.j1, l01In_eq, noteOk, Option.bind_some]
  generalize inB a 1 10000 = p1
  generalize inB e 1 20 = p2
  generalize inB c 1 1000 = p3
  generalize inB d 1 1000 = p4
  by_cases b1 : b = 1
  · subst b1; cases p1 <;> cases p2 <;> cases p3 <;> cases p4 <;> simp [inB]
  by_cases b2 : b = 2
  · subst b2; cases p1 <;> cases p2 <;> cases p3 <;> simp [inB]
  by_cases b3 : b = 3
  · subst b3; cases p1 <;> cases p2 <;> cases p3 <;> simp [inB]
  by_cases b4 : b = 4
  · subst b4; by_cases hc : c = 0 <;> cases p1 <;> cases p2 <;> cases p4 <;> simp [inB, hc]
  have hb : inB b 1 4 = false := by rw [inB_false]; omega
  rw [hb]
  cases p1 <;> cases p2 <;> simp [b1, b2, b3, b4]
theorem impl_NoteOk_eq (n : Nt) (k : Nat) : impl_NoteOk.f (k + 2) n.f0 n.f1 n.f2 n.f3 n.f4 = some (noteOk n) := by
  obtain ⟨a, b, c, d, e⟩ := n
  simp only [impl_NoteOk.f, impl_NoteOk.j0, impl_NoteOk.j1, isFrom1_eq, noteOk, Option.bind_some]
  generalize inB a 1 10000 = p1
  generalize inB e 1 20 = p2
  generalize inB c 1 1000 = p3
  generalize inB d 1 1000 = p4
  by_cases b1 : b = 1
  · subst b1; cases p1 <;> cases p2 <;> cases p3 <;> cases p4 <;> simp [inB]
  by_cases b2 : b = 2
  · subst b2; cases p1 <;> cases p2 <;> cases p3 <;> simp [inB]
  by_cases b3 : b = 3
  · subst b3; cases p1 <;> cases p2 <;> cases p3 <;> simp [inB]
  by_cases b4 : b = 4
  · subst b4; by_cases hc : c = 0 <;> cases p1 <;> cases p2 <;> cases p4 <;> simp [inB, hc]
  cases p1 <;> cases p2 <;> simp [b1, b2, b3, b4]

/-- Each note is right, and each Seq is greater than the one before it. -/
def okFrom (l : List Nt) (i : Nat) : Bool := (List.range' i (l.length - i)).all fun j => noteOk (l.getD j z25) && (j == 0 || decide ((l.getD (j - 1) z25).f0 < (l.getD j z25).f0))
def notesOk (l : List Nt) : Bool := decide (l.length ≤ 60) && okFrom l 0
theorem okFrom_end (l : List Nt) (i : Nat) (h : l.length ≤ i) : okFrom l i = true := by
  unfold okFrom; rw [show l.length - i = 0 by omega]; rfl
theorem okFrom_step (l : List Nt) (i : Nat) (h : i < l.length) : okFrom l i = (noteOk (l.getD i z25) && (i == 0 || decide ((l.getD (i - 1) z25).f0 < (l.getD i z25).f0)) && okFrom l (i + 1)) := by
  unfold okFrom; rw [show l.length - i = (l.length - (i + 1)) + 1 by omega, List.range'_succ]; rfl
theorem rd_nat (l : List Nt) (i : Nat) : rd_T25 l (i : Int) = l.getD i z25 := by simp [rd_T25]

theorem ev_spec_NoteOk (n : Nt) : Ev (fun k => spec_NoteOk.f k n.f0 n.f1 n.f2 n.f3 n.f4) (noteOk n) := Ev.from_ 2 fun k hk => by
  obtain ⟨k, rfl⟩ : ∃ m, k = m + 2 := ⟨k - 2, by omega⟩
  exact spec_NoteOk_eq n k
theorem ev_impl_NoteOk (n : Nt) : Ev (fun k => impl_NoteOk.f k n.f0 n.f1 n.f2 n.f3 n.f4) (noteOk n) := Ev.from_ 2 fun k hk => by
  obtain ⟨k, rfl⟩ : ∃ m, k = m + 2 := ⟨k - 2, by omega⟩
  exact impl_NoteOk_eq n k
theorem spec_NotesOk_l0 (l : List Nt) (hl : l.length ≤ 60) : ∀ d i, l.length - i = d → i ≤ l.length → Ev (fun k => spec_NotesOk.l0 k l (i : Int)) (okFrom l i) := by
  intro d
  induction d with
  | zero =>
    intro i hd hi
    rw [okFrom_end l i (by omega)]
    refine Ev.step (fun k => spec_NotesOk.l0.eq_2 ..) (Ev.neg (by omega) (Ev.now _))
  | succ d ih =>
    intro i hd hi
    have hn := ih (i + 1) (by omega) (by omega)
    rw [show ((i + 1 : Nat) : Int) = wrap64 ((i : Int) + 1) by rw [wrap_id (by omega) (by omega)]; omega] at hn
    rw [okFrom_step l i (by omega)]
    refine Ev.step (fun k => spec_NotesOk.l0.eq_2 ..) (Ev.pos (by omega) (Ev.pos (by omega) ?_))
    simp only [rd_nat]
    refine Ev.bd (ev_spec_NoteOk _) ?_
    cases hno : noteOk (l.getD i z25) with
    | false => exact Ev.neg (by simp) (Ev.some_ (by simp))
    | true =>
      refine Ev.pos rfl (Ev.ite (fun hp => ?_) (fun hp => ?_))
      · have hw : wrap64 ((i : Int) - 1) = ((i - 1 : Nat) : Int) := by rw [wrap_id (by omega) (by omega)]; omega
        have hi0 : (i == 0) = false := by simpa using (by omega : i ≠ 0)
        simp only [hw, rd_nat, hi0]
        refine Ev.pos (by omega) (Ev.pos (by omega) (Ev.ite (fun hc => Ev.some_ ?_) (fun hc => ?_)))
        · rw [decide_eq_false (by omega)]; simp
        · rw [decide_eq_true (by omega)]; simpa using hn
      · obtain rfl : i = 0 := by omega
        simpa using hn
theorem ev_spec_NotesOk (l : List Nt) : Ev (fun k => spec_NotesOk.f k l) (notesOk l) := by
  unfold spec_NotesOk.f notesOk
  refine Ev.ite (fun h => Ev.some_ ?_) (fun h => ?_)
  · rw [decide_eq_false (by omega), Bool.false_and]
  · rw [decide_eq_true (by omega), Bool.true_and]
    exact spec_NotesOk_l0 l (by omega) l.length 0 (by omega) (by omega)
theorem impl_NotesOk_l0 (l : List Nt) (hm : l.length ≤ maxLen) : ∀ d i, l.length - i = d → i ≤ l.length → Ev (fun k => impl_NotesOk.l0 k l l (l.length : Int) (i : Int)) (okFrom l i && decide (l.length ≤ 60)) := by
  unfold maxLen at hm
  intro d
  induction d with
  | zero =>
    intro i hd hi
    rw [okFrom_end l i (by omega)]
    refine Ev.step (fun k => impl_NotesOk.l0.eq_2 ..) (Ev.neg (by omega) (Ev.some_ ?_))
    rw [Bool.true_and]
    exact decide_eq_decide.2 (by omega)
  | succ d ih =>
    intro i hd hi
    have hn := ih (i + 1) (by omega) (by omega)
    rw [show ((i + 1 : Nat) : Int) = wrap64 ((i : Int) + 1) by rw [wrap_id (by omega) (by omega)]; omega] at hn
    rw [okFrom_step l i (by omega)]
    refine Ev.step (fun k => impl_NotesOk.l0.eq_2 ..) (Ev.pos (by omega) (Ev.pos (by omega) (Ev.pos (by omega) ?_)))
    simp only [rd_nat]
    refine Ev.bd (ev_impl_NoteOk _) ?_
    cases hno : noteOk (l.getD i z25) with
    | false => exact Ev.neg (by simp) (Ev.some_ (by simp))
    | true =>
      refine Ev.pos rfl (Ev.ite (fun hp => ?_) (fun hp => ?_))
      · have hw : wrap64 ((i : Int) - 1) = ((i - 1 : Nat) : Int) := by rw [wrap_id (by omega) (by omega)]; omega
        have hi0 : (i == 0) = false := by simpa using (by omega : i ≠ 0)
        simp only [hw, rd_nat, hi0]
        refine Ev.pos (by omega) (Ev.pos (by omega) (Ev.ite (fun hc => Ev.some_ ?_) (fun hc => ?_)))
        · rw [decide_eq_false (by omega)]; simp
        · rw [decide_eq_true (by omega)]; simpa using hn
      · obtain rfl : i = 0 := by omega
        simpa using hn
theorem ev_impl_NotesOk (l : List Nt) (hm : l.length ≤ maxLen) : Ev (fun k => impl_NotesOk.f k l) (notesOk l) := by
  unfold impl_NotesOk.f notesOk
  rw [Bool.and_comm]
  exact impl_NotesOk_l0 l hm l.length 0 (by omega) (by omega)
end Go.Proofs.Ytppojihmllmgnaa.F

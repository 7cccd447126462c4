/- What MergeNotes computes, in the program. No condition. -/
import Derived.Test.YtppojihmllmgnaaNoteAdd
import Derived.Test.YtppojihmllmgnaaF48
namespace Go.Proofs.Ytppojihmllmgnaa.F
open Go.RowKit Go.Proofs.YtppojihmllmgnaaW.PrintWords Go.Proofs.YtppojihmllmgnaaW.PrintLast Go.Proofs.Ytppojihmllmgnaa.Opn
set_option linter.unusedVariables false
set_option linter.unusedSimpArgs false
theorem first_failN (n : Nat) (P : Nat → Prop) (h : ¬ ∀ j, j < n → P j) : ∃ m, m < n ∧ ¬ P m ∧ ∀ j, j < m → P j := by
  induction n with
  | zero => exact absurd (fun j hj => absurd hj (Nat.not_lt_zero _)) h
  | succ n ih =>
    by_cases hn : ∀ j, j < n → P j
    · refine ⟨n, Nat.lt_succ_self n, fun hp => h (fun j hj => ?_), hn⟩
      rcases Nat.lt_succ_iff_lt_or_eq.1 hj with h1 | rfl
      · exact hn j h1
      · exact hp
    · obtain ⟨m, h1, h2, h3⟩ := ih hn
      exact ⟨m, by omega, h2, h3⟩
theorem ins_asc (n : Nt) : ∀ l : List Nt, l.Pairwise (fun a b => a.f0 < b.f0) → (∀ x ∈ l, x.f0 ≠ n.f0) → (ins n l).Pairwise (fun a b => a.f0 < b.f0)
  | [], _, _ => List.pairwise_singleton _ _
  | x :: xs, h, hn => by
    rw [List.pairwise_cons] at h
    have hx := hn x List.mem_cons_self
    unfold ins
    split
    · rename_i hlt
      refine List.pairwise_cons.2 ⟨fun y hy => ?_, List.pairwise_cons.2 h⟩
      rcases List.mem_cons.1 hy with rfl | hy
      · omega
      · have := h.1 y hy; omega
    · rename_i hlt
      refine List.pairwise_cons.2 ⟨fun y hy => ?_, ins_asc n xs h.2 (fun y hy => hn y (List.mem_cons_of_mem _ hy))⟩
      rcases List.mem_append.1 ((ins_perm n xs).mem_iff.1 hy) with hy | hy
      · exact h.1 y hy
      · rw [List.mem_singleton.1 hy]; omega
theorem mem_ins {n x : Nt} {l : List Nt} : x ∈ ins n l ↔ x ∈ l ∨ x = n := by
  rw [(ins_perm n l).mem_iff, List.mem_append, List.mem_singleton]
theorem notesOk_of {l : List Nt} (h1 : l.length ≤ 60) (h2 : ∀ x ∈ l, noteOk x = true) (h3 : l.Pairwise (fun a b => a.f0 < b.f0)) : notesOk l = true := by
  unfold notesOk okFrom
  simp only [Bool.and_eq_true, decide_eq_true_eq, List.all_eq_true, List.mem_range', Nat.sub_zero]
  refine ⟨h1, ?_⟩
  rintro j ⟨i, hi, rfl⟩
  have hg : ∀ j (hj : j < l.length), l.getD j z25 = l[j] := fun j hj => by rw [List.getD_eq_getElem?_getD, List.getElem?_eq_getElem hj]; rfl
  have hj : 0 + 1 * i < l.length := by omega
  rw [hg _ hj]
  refine ⟨h2 _ (List.getElem_mem hj), ?_⟩
  simp only [Bool.or_eq_true, beq_iff_eq, decide_eq_true_eq]
  by_cases h0 : 0 + 1 * i = 0
  · exact .inl h0
  · right
    rw [hg _ (by omega)]
    rw [List.pairwise_iff_getElem] at h3
    exact h3 _ _ (by omega) hj (by omega)
theorem notesOk_all {l : List Nt} (h : notesOk l = true) : ∀ x ∈ l, noteOk x = true := by
  intro x hx
  obtain ⟨j, hj, rfl⟩ := List.getElem_of_mem hx
  have := (notesOk_get h j hj).1
  rwa [List.getD_eq_getElem?_getD, List.getElem?_eq_getElem hj] at this
theorem asc_uniq {l : List Nt} (h : l.Pairwise (fun a b => a.f0 < b.f0)) {x y : Nt} (hx : x ∈ l) (hy : y ∈ l) (he : x.f0 = y.f0) : x = y := by
  obtain ⟨i, hi, rfl⟩ := List.getElem_of_mem hx
  obtain ⟨j, hj, rfl⟩ := List.getElem_of_mem hy
  rw [List.pairwise_iff_getElem] at h
  rcases Nat.lt_trichotomy i j with c | c | c
  · have := h i j hi hj c; omega
  · subst c; rfl
  · have := h j i hj hi c; omega
theorem at8_mem {l : List Nt} (h : l.Pairwise (fun a b => a.f0 < b.f0)) {x : Nt} (hx : x ∈ l) : at8 l x.f0 = x := by
  unfold at8
  cases hf : l.find? (fun n => n.f0 == x.f0) with
  | none =>
    rw [List.find?_eq_none] at hf
    exact absurd (beq_self_eq_true x.f0) (hf x hx)
  | some y =>
    have hp := List.find?_some hf
    simp only [Option.getD_some]
    exact asc_uniq h (List.mem_of_find?_eq_some hf) hx (beq_iff_eq.1 hp)
theorem at8_none {l : List Nt} {s : Int} (h : ∀ x ∈ l, x.f0 ≠ s) : at8 l s = ⟨0, 0, 0, 0, 0⟩ := by
  unfold at8
  rw [List.find?_eq_none.2 (fun x hx => by simpa using h x hx)]
  rfl
/-- What is held after so many notes of the second list. -/
def mrg (a b : List Nt) : Nat → List Nt
  | 0 => a
  | i + 1 => if (at8 a (b.getD i z25).f0).f0 = 0 then ins (b.getD i z25) (mrg a b i) else mrg a b i
def conf (a : List Nt) (n : Nt) : Prop := (at8 a n.f0).f0 ≠ 0 ∧ eqN (at8 a n.f0) n = false
instance (a : List Nt) (n : Nt) : Decidable (conf a n) := by unfold conf; infer_instance
def mrgN (a b : List Nt) : List Nt × Bool :=
  if (notesOk a = true ∧ notesOk b = true) ∧ (∀ j, j < b.length → ¬ conf a (b.getD j z25)) ∧ (mrg a b b.length).length ≤ 60 then (mrg a b b.length, true) else ([], false)
theorem mrg_len (a b : List Nt) : ∀ i, a.length ≤ (mrg a b i).length ∧ (mrg a b i).length ≤ a.length + i ∧ (mrg a b i).length ≤ (mrg a b (i + 1)).length
  | 0 => by
    refine ⟨Nat.le_refl _, Nat.le_refl _, ?_⟩
    show a.length ≤ _
    simp only [mrg]
    split
    · rw [ins_len]; omega
    · exact Nat.le_refl _
  | i + 1 => by
    obtain ⟨h1, h2, h3⟩ := mrg_len a b i
    refine ⟨by omega, ?_, ?_⟩
    · simp only [mrg]
      split
      · rw [ins_len]; omega
      · omega
    · show (mrg a b (i + 1)).length ≤ (if (at8 a (b.getD (i + 1) z25).f0).f0 = 0 then ins (b.getD (i + 1) z25) (mrg a b (i + 1)) else mrg a b (i + 1)).length
      split
      · rw [ins_len]; omega
      · exact Nat.le_refl _
theorem mrg_mono (a b : List Nt) (i j : Nat) (h : i ≤ j) : (mrg a b i).length ≤ (mrg a b j).length := by
  induction j with
  | zero => obtain rfl : i = 0 := by omega
            exact Nat.le_refl _
  | succ j ih =>
    by_cases e : i = j + 1
    · subst e; exact Nat.le_refl _
    · exact Nat.le_trans (ih (by omega)) (mrg_len a b j).2.2
theorem mrg_inv {a b : List Nt} (ha : notesOk a = true) (hb : notesOk b = true) : ∀ i, i ≤ b.length → (mrg a b i).Pairwise (fun x y => x.f0 < y.f0) ∧ (∀ x ∈ mrg a b i, noteOk x = true) ∧ (∀ x ∈ a, x ∈ mrg a b i) ∧ ∀ x ∈ mrg a b i, x ∈ a ∨ ∃ j, j < i ∧ x = b.getD j z25
  | 0, _ => ⟨notesOk_asc ha, notesOk_all ha, fun x hx => hx, fun x hx => .inl hx⟩
  | i + 1, hi => by
    obtain ⟨h1, h2, h3, h4⟩ := mrg_inv ha hb i (by omega)
    have hbm : b.getD i z25 ∈ b := by
      rw [List.getD_eq_getElem?_getD, List.getElem?_eq_getElem (by omega)]
      exact List.getElem_mem _
    simp only [mrg]
    split
    · rename_i hz
      have hnew : ∀ x ∈ mrg a b i, x.f0 ≠ (b.getD i z25).f0 := by
        intro x hx he
        rcases h4 x hx with hxa | ⟨j, hj, rfl⟩
        · have := at8_mem (notesOk_asc ha) hxa
          rw [he] at this
          rw [this] at hz
          have := (noteOk_f0 (notesOk_all ha x hxa)).1
          omega
        · have hp := notesOk_asc hb
          rw [List.pairwise_iff_getElem] at hp
          have := hp j i (by omega) (by omega) hj
          rw [List.getD_eq_getElem?_getD, List.getElem?_eq_getElem (by omega), List.getD_eq_getElem?_getD, List.getElem?_eq_getElem (by omega)] at he
          simp only [Option.getD_some] at he
          omega
      refine ⟨ins_asc _ _ h1 hnew, fun x hx => ?_, fun x hx => mem_ins.2 (.inl (h3 x hx)), fun x hx => ?_⟩
      · rcases mem_ins.1 hx with hx | rfl
        · exact h2 x hx
        · exact notesOk_all hb _ hbm
      · rcases mem_ins.1 hx with hx | rfl
        · rcases h4 x hx with h | ⟨j, hj, h⟩
          · exact .inl h
          · exact .inr ⟨j, by omega, h⟩
        · exact .inr ⟨i, by omega, rfl⟩
    · refine ⟨h1, h2, h3, fun x hx => ?_⟩
      rcases h4 x hx with h | ⟨j, hj, h⟩
      · exact .inl h
      · exact .inr ⟨j, by omega, h⟩
/-- In what is held so far a note of the second list is found just where it is in the first. -/
theorem mrg_at {a b : List Nt} (ha : notesOk a = true) (hb : notesOk b = true) (i : Nat) (hi : i < b.length) : at8 (mrg a b i) (b.getD i z25).f0 = at8 a (b.getD i z25).f0 := by
  obtain ⟨h1, h2, h3, h4⟩ := mrg_inv ha hb i (by omega)
  by_cases hex : ∃ x, x ∈ a ∧ x.f0 = (b.getD i z25).f0
  · obtain ⟨x, hx, he⟩ := hex
    rw [← he, at8_mem h1 (h3 x hx), at8_mem (notesOk_asc ha) hx]
  · have hna : ∀ x ∈ a, x.f0 ≠ (b.getD i z25).f0 := fun x hx he => hex ⟨x, hx, he⟩
    rw [at8_none hna, at8_none]
    intro x hx he
    rcases h4 x hx with hxa | ⟨j, hj, rfl⟩
    · exact hna x hxa he
    · have hp := notesOk_asc hb
      rw [List.pairwise_iff_getElem] at hp
      have := hp j i (by omega) hi hj
      rw [List.getD_eq_getElem?_getD, List.getElem?_eq_getElem (by omega), List.getD_eq_getElem?_getD, List.getElem?_eq_getElem hi] at he
      simp only [Option.getD_some] at he
      omega
theorem mrgN_len (a b : List Nt) : (mrgN a b).1.length ≤ 60 := by
  unfold mrgN
  split
  · rename_i h; exact h.2.2
  · simp
theorem ev_impl_MergeNotes (a b : List Nt) (ha : a.length ≤ maxLen) (hb : b.length ≤ maxLen) : Ev (fun k => impl_MergeNotes.f k a b) (mrgN a b) := by
  unfold impl_MergeNotes.f mrgN
  refine Ev.bd (ev_impl_NotesOk a ha) (Ev.ite (fun h1 => Ev.bd (ev_impl_NotesOk b hb) (Ev.step (fun k => impl_MergeNotes.j0.eq_2 ..) (Ev.ite (fun h2 => ?_) (fun h2 => ?_)))) (fun h1 => Ev.step (fun k => impl_MergeNotes.j0.eq_2 ..) (Ev.pos rfl ?_)))
  · rw [if_neg (fun h => by rw [h.1.2] at h2; simp at h2)]
    exact Ev.now _
  · have h2 : notesOk b = true := by simpa using h2
    have h60 := notesOk_len h1
    have h60b := notesOk_len h2
    rw [cloneN_eq' a (by omega)]
    refine Ev.bs ?_
    -- one note
    have one : ∀ i, i < b.length → (mrg a b i).length ≤ 60 → addN (mrg a b i) (b.getD i z25) = if ¬ conf a (b.getD i z25) ∧ (mrg a b (i + 1)).length ≤ 60 then (mrg a b (i + 1), true) else (mrg a b i, false) := by
      intro i hi hlen
      obtain ⟨i1, i2, i3, i4⟩ := mrg_inv h1 h2 i (by omega)
      have hok := notesOk_of hlen i2 i1
      have hbm : b.getD i z25 ∈ b := by
        rw [List.getD_eq_getElem?_getD, List.getElem?_eq_getElem hi]
        exact List.getElem_mem _
      have hno := notesOk_all h2 _ hbm
      have hf0 := (noteOk_f0 hno).1
      unfold addN
      rw [if_pos (And.intro hok hno), mrg_at h1 h2 i hi]
      have hm1 : mrg a b (i + 1) = if (at8 a (b.getD i z25).f0).f0 = 0 then ins (b.getD i z25) (mrg a b i) else mrg a b i := rfl
      generalize mrg a b (i + 1) = m1 at hm1
      generalize b.getD i z25 = n at *
      by_cases c : eqN (at8 a n.f0) n = true
      · have hz : ¬ (at8 a n.f0).f0 = 0 := by
          unfold eqN at c
          simp only [Bool.and_eq_true, beq_iff_eq] at c
          omega
        rw [if_neg hz] at hm1
        subst hm1
        have hand : ¬ conf a n ∧ (mrg a b i).length ≤ 60 := ⟨fun hc => (by have := hc.2; rw [c] at this; cases this), hlen⟩
        rw [if_pos c, if_pos hand]
      · rw [if_neg c]
        by_cases hz : (at8 a n.f0).f0 = 0
        · rw [if_pos hz]
          rw [if_pos hz] at hm1
          have hl1 : m1.length = (mrg a b i).length + 1 := by rw [hm1, ins_len]
          by_cases hfull : ((mrg a b i).length : Int) ≥ 60
          · have hand : ¬ (¬ conf a n ∧ m1.length ≤ 60) := fun h => by have := h.2; omega
            rw [if_pos hfull, if_neg hand]
          · have hand : ¬ conf a n ∧ m1.length ≤ 60 := ⟨fun hc => hc.1 hz, by omega⟩
            rw [if_neg hfull, if_pos hand, hm1]
        · have hand : ¬ (¬ conf a n ∧ m1.length ≤ 60) := fun h => h.1 ⟨hz, Bool.eq_false_iff.2 c⟩
          rw [if_neg hz, if_neg hand]
    have evAdd : ∀ i, i < b.length → (mrg a b i).length ≤ 60 → Ev (fun k => impl_AddNote.f k (mrg a b i) (b.getD i z25).f0 (b.getD i z25).f1 (b.getD i z25).f2 (b.getD i z25).f3 (b.getD i z25).f4) (addN (mrg a b i) (b.getD i z25)) := fun i hi hl => ev_impl_AddNote _ _ (by omega)
    have lens : ∀ i, (∀ j, j < i → (¬ conf a (b.getD j z25) ∧ (mrg a b (j + 1)).length ≤ 60)) → (mrg a b i).length ≤ 60 := by
      intro i h
      cases i with
      | zero => exact h60
      | succ i => exact (h i (by omega)).2
    have step : ∀ i, i < b.length → (∀ j, j < i + 1 → (¬ conf a (b.getD j z25) ∧ (mrg a b (j + 1)).length ≤ 60)) → ∀ r, Ev (fun k => impl_MergeNotes.l0 k (mrg a b (i + 1)) b (b.length : Int) ((i + 1 : Nat) : Int)) r → Ev (fun k => impl_MergeNotes.l0 k (mrg a b i) b (b.length : Int) (i : Int)) r := by
      intro i hi hc r ih
      have hl := lens i (fun j hj => hc j (by omega))
      refine Ev.step (fun k => impl_MergeNotes.l0.eq_2 ..) (Ev.pos (by omega) (Ev.pos (by omega) (Ev.pos (by omega) ?_)))
      simp only [rd_nat, wrap_succ i (by omega)]
      have e := evAdd i hi hl
      rw [one i hi hl, if_pos (hc i (by omega))] at e
      exact Ev.bd e (Ev.pos rfl ih)
    by_cases hall : ∀ j, j < b.length → (¬ conf a (b.getD j z25) ∧ (mrg a b (j + 1)).length ≤ 60)
    · rw [if_pos ⟨⟨h1, h2⟩, fun j hj => (hall j hj).1, lens _ hall⟩]
      refine up_state (fun k s i => impl_MergeNotes.l0 k s b (b.length : Int) i) b.length (fun i => mrg a b i) _ ?_ (fun i hi ih => step i hi (fun j hj => hall j (by omega)) _ ih) 0 (by omega)
      exact Ev.step (fun k => impl_MergeNotes.l0.eq_2 ..) (Ev.neg (by omega) (Ev.now _))
    · obtain ⟨m, hm, hbad, hlt⟩ := first_failN _ _ hall
      rw [if_neg (fun h => hbad ⟨h.2.1 m hm, Nat.le_trans (mrg_mono a b (m + 1) b.length (by omega)) h.2.2⟩)]
      refine up_state (fun k s i => impl_MergeNotes.l0 k s b (b.length : Int) i) m (fun i => mrg a b i) _ ?_ (fun i hi ih => step i (by omega) (fun j hj => hlt j (by omega)) _ ih) 0 (by omega)
      have hl := lens m hlt
      refine Ev.step (fun k => impl_MergeNotes.l0.eq_2 ..) (Ev.pos (by omega) (Ev.pos (by omega) (Ev.pos (by omega) ?_)))
      simp only [rd_nat]
      have e := evAdd m hm hl
      rw [one m hm hl, if_neg hbad] at e
      exact Ev.bd e (Ev.neg (by simp) (Ev.now _))
  · rw [if_neg (fun h => h1 h.1.1)]
    exact Ev.now _
end Go.Proofs.Ytppojihmllmgnaa.F
